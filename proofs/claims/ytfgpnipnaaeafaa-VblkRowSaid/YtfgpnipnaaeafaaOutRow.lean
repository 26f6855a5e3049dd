/- Proved: VblkRow returns true at every input and leaves its input as it was. No condition beside the given form of the statement. -/
import Derived.Test.YtfgpnipnaaeafaaLc
import Derived.Test.YtfgpnipnaaeafaaLg
import Derived.Test.YtfgpnipnaaeafaaLh
set_option linter.all false

namespace Go.Proofs.Ytfgpnipnaaeafaa
set_option maxRecDepth 20000
open Go Pw Go.ChangeShapes Go.WideShapes Go.ChangeAt Go.RowKit
set_option maxRecDepth 100000 in
theorem row_lifted (os : Os) (started : os.Started) (H : Type) (enc : TypeId × Value → H) :
        ReturnsInHanded {} Try.checked os 5 .any (Rows.vblkRowSpec.pre6 enc Try.prog Try.f5 Rows.vblkRowRow.domain false) (Rows.vblkRowSpec.post enc Try.prog Try.f5 false true false false) := by
  refine returnsInHanded_of_change_sized (C := Try.checked) own started (by kernel_rfl) Try.func5
        (ChangeSpec.witness6 (C := Try.checked) false ⟨#[], #[.slice none 0 0, .slice none 0 0], []⟩ 8 (by kernel_rfl) (by kernel_rfl) (by kernel_rfl) (by kernel_rfl)) ?_
  intro W base args ds gs before hval hW _ hwt _
  have hW' := hW
  obtain ⟨p, q, hA0, hV, hbef, hfz, hnd⟩ := hW
  have hA : DataW.TrodAll enc Try.prog W 0 (fun _ => true) true Try.f5.params.toList args.toList ds p := hA0
  have hval2 := hval
  rw [Try.params5] at hA hval2
  obtain ⟨v0, vs0, d0, ds0, p0, q0, hargs, rfl, rfl, h0, r0⟩ := trodAll_cons hA
  obtain ⟨v1, vs1, d1, ds1, p1, q1, rfl, rfl, rfl, h1, r1⟩ := trodAll_cons r0
  obtain ⟨rfl, rfl, rfl⟩ := trodAll_nil r1
  obtain rfl : args = #[v0, v1] := by cases args; simp_all
  obtain ⟨rfl, rfl⟩ := trodVars_none hV
  rw [Try.params5] at hwt
  have hw : ∀ (j : Nat) (t : TypeId) (d : DataW H), [59, 59][j]? = some t → [d0, d1][j]? = some d → ∀ y ∈ d.weights Try.prog t, y ≤ reachBytes := fun j t d h1 h2 y hy => by
        have hj : j < 2 := by
          rcases Nat.lt_or_ge j 2 with h | h
          · exact h
          · rw [List.getElem?_eq_none (by simpa using h)] at h1; cases h1
        have := List.all_eq_true.1 hwt y (DataW.weights_mem_each (j := j) (by rw [List.getElem?_append_left (by simpa using hj)]; exact h1) (by rw [List.getElem?_append_left (by simpa using hj)]; exact h2) y hy)
        simpa using this
  obtain ⟨bl, a0, k0, rfl, hI0, hok0⟩ := u8s_in (hval2 0 59 v0 rfl rfl) h0 (hw 0 59 d0 rfl rfl)
  obtain ⟨os, a1, k1, rfl, hI1, hok1⟩ := u8s_in (hval2 1 59 v1 rfl rfl) h1 (hw 1 59 d1 rfl rfl)
  have fin : ∀ (e : Ending) (w' : World), (∃ v L' , e = .returned v ∧ v = .bool true ∧ L' = [old W.heap] ∧ SL ⟨W.os, W.tape, W.output⟩ L' w') → ∃ v, e = .returned v ∧ Rows.vblkRowSpec.post enc Try.prog Try.f5 false true false false W #[.slice a0 bl.length k0, .slice a1 os.length k1] v w' := by
        rintro e w' ⟨_, _, rfl, rfl, rfl, hs⟩
        exact ⟨_, rfl, post_of_old (fn := Try.f5) (tb := 4) kin (by rw [Try.params5]; simp) Try.underlying4 (by rfl) rfl hW' rfl rfl rfl hs.1 hs.2.2.1 (old_of_SL hs (.head _ _))⟩
  exact calls_of_sato (args := [.slice a0 bl.length k0, .slice a1 os.length k1]) (row_law W.heap bl os a0 a1 k0 k1 (hI0 := ⟨hI0⟩) (hIP0 := ⟨fun hn => inp_at hI0 hn⟩) (hI1 := ⟨hI1⟩) (hIP1 := ⟨fun hn => inp_at hI1 hn⟩) (gt_all hok0 (by decide)) (gt_all hok1 (by decide)) (by have := hI0.2.1; omega) (by have := hI1.2.1; omega)) (fun v L' w' ⟨hv, hL⟩ hs => fin _ _ ⟨v, L', rfl, hv, hL, hs⟩)
theorem row_holds : Rows.VblkRowSaid :=
  OpenClaim.holds_of_wide 5 Try.f5 rfl rfl rfl rfl rfl rfl rfl ⟨rfl, rfl, rfl, rfl, rfl⟩ rfl rfl rfl rfl rfl (by kernel_rfl) Try.func5 (by kernel_rfl)
        (of_decide_eq_true (by kernel_rfl)) (by unfold Func.isWrapper; first | (rw [if_pos (by decide +kernel)]; kernel_rfl) | (rw [if_neg (by decide +kernel)]; exact ⟨rfl, rfl⟩))
        (fun os started H enc _ => row_lifted os started H enc)
end Go.Proofs.Ytfgpnipnaaeafaa
    
