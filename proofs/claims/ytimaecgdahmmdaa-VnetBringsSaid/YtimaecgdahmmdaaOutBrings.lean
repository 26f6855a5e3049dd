/- Proved: VnetBrings returns true at every input and leaves its input as it was. No condition beside the given form of the statement. -/
import Derived.Test.YtimaecgdahmmdaaLc
import Derived.Test.YtimaecgdahmmdaaMb
import Derived.Test.YtimaecgdahmmdaaMe
set_option linter.all false

namespace Go.Proofs.Ytimaecgdahmmdaa
set_option maxRecDepth 20000
open Go Pw Go.ChangeShapes Go.WideShapes Go.ChangeAt Go.RowKit
set_option maxRecDepth 100000 in
theorem brings_lifted (os : Os) (started : os.Started) (H : Type) (enc : TypeId × Value → H) :
        ReturnsInHanded {} Try.checked os 3 .any (Rows.vnetBringsSpec.pre6 enc Try.prog Try.f3 Rows.vnetBringsRow.domain false) (Rows.vnetBringsSpec.post enc Try.prog Try.f3 false true false false) := by
  refine returnsInHanded_of_change_sized (C := Try.checked) own started (by kernel_rfl) Try.func3
        (ChangeSpec.witness6 (C := Try.checked) false ⟨#[], #[.slice none 0 0, .slice none 0 0, .slice none 0 0], []⟩ 8 (by kernel_rfl) (by kernel_rfl) (by kernel_rfl) (by kernel_rfl)) ?_
  intro W base args ds gs before hval hW _ hwt _
  have hW' := hW
  obtain ⟨p, q, hA0, hV, hbef, hfz, hnd⟩ := hW
  have hA : DataW.TrodAll enc Try.prog W 0 (fun _ => true) true Try.f3.params.toList args.toList ds p := hA0
  have hval2 := hval
  rw [Try.params3] at hA hval2
  obtain ⟨v0, vs0, d0, ds0, p0, q0, hargs, rfl, rfl, h0, r0⟩ := trodAll_cons hA
  obtain ⟨v1, vs1, d1, ds1, p1, q1, rfl, rfl, rfl, h1, r1⟩ := trodAll_cons r0
  obtain ⟨v2, vs2, d2, ds2, p2, q2, rfl, rfl, rfl, h2, r2⟩ := trodAll_cons r1
  obtain ⟨rfl, rfl, rfl⟩ := trodAll_nil r2
  obtain rfl : args = #[v0, v1, v2] := by cases args; simp_all
  obtain ⟨rfl, rfl⟩ := trodVars_none hV
  rw [Try.params3] at hwt
  have hw : ∀ (j : Nat) (t : TypeId) (d : DataW H), [22, 22, 23][j]? = some t → [d0, d1, d2][j]? = some d → ∀ y ∈ d.weights Try.prog t, y ≤ reachBytes := fun j t d h1 h2 y hy => by
        have hj : j < 3 := by
          rcases Nat.lt_or_ge j 3 with h | h
          · exact h
          · rw [List.getElem?_eq_none (by simpa using h)] at h1; cases h1
        have := List.all_eq_true.1 hwt y (DataW.weights_mem_each (j := j) (by rw [List.getElem?_append_left (by simpa using hj)]; exact h1) (by rw [List.getElem?_append_left (by simpa using hj)]; exact h2) y hy)
        simpa using this
  obtain ⟨fs, a0, k0, rfl, hI0, hok0⟩ := strs_in (hval2 0 22 v0 rfl rfl) h0 (hw 0 22 d0 rfl rfl)
  obtain ⟨ss, a1, k1, rfl, hI1, hok1⟩ := strs_in (hval2 1 22 v1 rfl rfl) h1 (hw 1 22 d1 rfl rfl)
  obtain ⟨os, a2, k2, rfl, hI2, hok2⟩ := u8s_in (hval2 2 23 v2 rfl rfl) h2 (hw 2 23 d2 rfl rfl)
  have fin : ∀ (e : Ending) (w' : World), (∃ v L' , e = .returned v ∧ v = .bool true ∧ L' = [old W.heap] ∧ SL ⟨W.os, W.tape, W.output⟩ L' w') → ∃ v, e = .returned v ∧ Rows.vnetBringsSpec.post enc Try.prog Try.f3 false true false false W #[.slice a0 fs.length k0, .slice a1 ss.length k1, .slice a2 os.length k2] v w' := by
        rintro e w' ⟨_, _, rfl, rfl, rfl, hs⟩
        exact ⟨_, rfl, post_of_old (fn := Try.f3) (tb := 4) kin (by rw [Try.params3]; simp) Try.underlying4 (by rfl) rfl hW' rfl rfl rfl hs.1 hs.2.2.1 (old_of_SL hs (.head _ _))⟩
  exact calls_of_sato (args := [.slice a0 fs.length k0, .slice a1 ss.length k1, .slice a2 os.length k2]) (brings_law W.heap fs ss os a0 a1 a2 k0 k1 k2 (hI0 := ⟨hI0⟩) (hIP0 := ⟨fun hn => inp_at hI0 hn⟩) (hI1 := ⟨hI1⟩) (hIP1 := ⟨fun hn => inp_at hI1 hn⟩) (hI2 := ⟨hI2⟩) (hIP2 := ⟨fun hn => inp_at hI2 hn⟩) (gt_all hok0 (Nat.zero_le _)) (gt_all hok1 (Nat.zero_le _)) (gt_all hok2 (by decide)) (by have := hI0.2.1; omega) (by have := hI1.2.1; omega) (by have := hI2.2.1; omega)) (fun v L' w' ⟨hv, hL⟩ hs => fin _ _ ⟨v, L', rfl, hv, hL, hs⟩)
theorem brings_holds : Rows.VnetBringsSaid :=
  OpenClaim.holds_of_wide 3 Try.f3 rfl rfl rfl rfl rfl rfl rfl ⟨rfl, rfl, rfl, rfl, rfl⟩ rfl rfl rfl rfl rfl (by kernel_rfl) Try.func3 (by kernel_rfl)
        (of_decide_eq_true (by kernel_rfl)) (by unfold Func.isWrapper; first | (rw [if_pos (by decide +kernel)]; kernel_rfl) | (rw [if_neg (by decide +kernel)]; exact ⟨rfl, rfl⟩))
        (fun os started H enc _ => brings_lifted os started H enc)
end Go.Proofs.Ytimaecgdahmmdaa
    
