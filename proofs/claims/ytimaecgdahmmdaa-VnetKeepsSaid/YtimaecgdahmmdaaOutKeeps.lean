/- Proved: VnetKeeps returns true at every input and leaves its input as it was. No condition beside the given form of the statement. -/
import Derived.Test.YtimaecgdahmmdaaLc
import Derived.Test.YtimaecgdahmmdaaMa
import Derived.Test.YtimaecgdahmmdaaMd
set_option linter.all false

namespace Go.Proofs.Ytimaecgdahmmdaa
set_option maxRecDepth 20000
open Go Pw Go.ChangeShapes Go.WideShapes Go.ChangeAt Go.RowKit
set_option maxRecDepth 100000 in
theorem keeps_lifted (os : Os) (started : os.Started) (H : Type) (enc : TypeId × Value → H) :
        ReturnsInHanded {} Try.checked os 5 .any (Rows.vnetKeepsSpec.pre6 enc Try.prog Try.f5 Rows.vnetKeepsRow.domain false) (Rows.vnetKeepsSpec.post enc Try.prog Try.f5 false true false false) := by
  refine returnsInHanded_of_change_sized (C := Try.checked) own started (by kernel_rfl) Try.func5
        (ChangeSpec.witness6 (C := Try.checked) false ⟨#[], #[.slice none 0 0], []⟩ 8 (by kernel_rfl) (by kernel_rfl) (by kernel_rfl) (by kernel_rfl)) ?_
  intro W base args ds gs before hval hW _ hwt _
  have hW' := hW
  obtain ⟨p, q, hA0, hV, hbef, hfz, hnd⟩ := hW
  have hA : DataW.TrodAll enc Try.prog W 0 (fun _ => true) true Try.f5.params.toList args.toList ds p := hA0
  have hval2 := hval
  rw [Try.params5] at hA hval2
  obtain ⟨v0, vs0, d0, ds0, p0, q0, hargs, rfl, rfl, h0, r0⟩ := trodAll_cons hA
  obtain ⟨rfl, rfl, rfl⟩ := trodAll_nil r0
  obtain rfl : args = #[v0] := by cases args; simp_all
  obtain ⟨rfl, rfl⟩ := trodVars_none hV
  rw [Try.params5] at hwt
  have hw : ∀ (j : Nat) (t : TypeId) (d : DataW H), [62][j]? = some t → [d0][j]? = some d → ∀ y ∈ d.weights Try.prog t, y ≤ reachBytes := fun j t d h1 h2 y hy => by
        have hj : j < 1 := by
          rcases Nat.lt_or_ge j 1 with h | h
          · exact h
          · rw [List.getElem?_eq_none (by simpa using h)] at h1; cases h1
        have := List.all_eq_true.1 hwt y (DataW.weights_mem_each (j := j) (by rw [List.getElem?_append_left (by simpa using hj)]; exact h1) (by rw [List.getElem?_append_left (by simpa using hj)]; exact h2) y hy)
        simpa using this
  obtain ⟨l, a0, k0, rfl, hI0, hok0⟩ := script_in (hval2 0 62 v0 rfl rfl) h0 (hw 0 62 d0 rfl rfl)
  have fin : ∀ (e : Ending) (w' : World), (∃ v L' , e = .returned v ∧ v = .bool true ∧ L' = [old W.heap] ∧ SL ⟨W.os, W.tape, W.output⟩ L' w') → ∃ v, e = .returned v ∧ Rows.vnetKeepsSpec.post enc Try.prog Try.f5 false true false false W #[.slice a0 l.length k0] v w' := by
        rintro e w' ⟨_, _, rfl, rfl, rfl, hs⟩
        exact ⟨_, rfl, post_of_old (fn := Try.f5) (tb := 4) kin (by rw [Try.params5]; simp) Try.underlying4 (by rfl) rfl hW' rfl rfl rfl hs.1 hs.2.2.1 (old_of_SL hs (.head _ _))⟩
  exact calls_of_sato (args := [.slice a0 l.length k0]) (keeps_law W.heap l a0 k0 (hI := ⟨hI0⟩) (hIP := ⟨fun hn => inp_at hI0 hn⟩) (gt_all hok0 stp0) (by have := hI0.2.1; omega)) (fun v L' w' ⟨hv, hL⟩ hs => fin _ _ ⟨v, L', rfl, hv, hL, hs⟩)
theorem keeps_holds : Rows.VnetKeepsSaid :=
  OpenClaim.holds_of_wide 5 Try.f5 rfl rfl rfl rfl rfl rfl rfl ⟨rfl, rfl, rfl, rfl, rfl⟩ rfl rfl rfl rfl rfl (by kernel_rfl) Try.func5 (by kernel_rfl)
        (of_decide_eq_true (by kernel_rfl)) (by unfold Func.isWrapper; first | (rw [if_pos (by decide +kernel)]; kernel_rfl) | (rw [if_neg (by decide +kernel)]; exact ⟨rfl, rfl⟩))
        (fun os started H enc _ => keeps_lifted os started H enc)
end Go.Proofs.Ytimaecgdahmmdaa
    
