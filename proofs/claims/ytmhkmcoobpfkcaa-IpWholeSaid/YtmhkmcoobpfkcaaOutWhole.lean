/- Proved: IpWhole returns true at every input and leaves its input as it was. No condition beside the given form of the statement. -/
import Derived.Test.YtmhkmcoobpfkcaaKi
import Derived.Test.YtmhkmcoobpfkcaaSg
import Derived.Test.YtmhkmcoobpfkcaaKq
set_option linter.all false

namespace Go.Proofs.Ytmhkmcoobpfkcaa
set_option maxRecDepth 20000
open Go Pw Go.ChangeShapes Go.WideShapes Go.ChangeAt Go.RowKit
set_option maxRecDepth 100000 in
theorem whole_lifted (os : Os) (started : os.Started) (H : Type) (enc : TypeId × Value → H) :
        ReturnsInHanded {} Try.checked os 4 .any (Rows.ipWholeSpec.pre6 enc Try.prog Try.f4 Rows.ipWholeRow.domain false) (Rows.ipWholeSpec.post enc Try.prog Try.f4 false true false false) := by
  refine returnsInHanded_of_change_sized (C := Try.checked) own started (by kernel_rfl) Try.func4
        (ChangeSpec.witness6 (C := Try.checked) false ⟨#[], #[.slice none 0 0, .slice none 0 0, .slice none 0 0], []⟩ 8 (by kernel_rfl) (by kernel_rfl) (by kernel_rfl) (by kernel_rfl)) ?_
  intro W base args ds gs before hval hW _ hwt _
  have hW' := hW
  obtain ⟨p, q, hA0, hV, hbef, hfz, hnd⟩ := hW
  have hA : DataW.TrodAll enc Try.prog W 0 (fun _ => true) true Try.f4.params.toList args.toList ds p := hA0
  have hval2 := hval
  rw [Try.params4] at hA hval2
  obtain ⟨v0, vs0, d0, ds0, p0, q0, hargs, rfl, rfl, h0, r0⟩ := trodAll_cons hA
  obtain ⟨v1, vs1, d1, ds1, p1, q1, rfl, rfl, rfl, h1, r1⟩ := trodAll_cons r0
  obtain ⟨v2, vs2, d2, ds2, p2, q2, rfl, rfl, rfl, h2, r2⟩ := trodAll_cons r1
  obtain ⟨rfl, rfl, rfl⟩ := trodAll_nil r2
  obtain rfl : args = #[v0, v1, v2] := by cases args; simp_all
  obtain ⟨rfl, rfl⟩ := trodVars_none hV
  rw [Try.params4] at hwt
  have hw : ∀ (j : Nat) (t : TypeId) (d : DataW H), [45, 46, 47][j]? = some t → [d0, d1, d2][j]? = some d → ∀ y ∈ d.weights Try.prog t, y ≤ reachBytes := fun j t d h1 h2 y hy => by
        have hj : j < 3 := by
          rcases Nat.lt_or_ge j 3 with h | h
          · exact h
          · rw [List.getElem?_eq_none (by simpa using h)] at h1; cases h1
        have := List.all_eq_true.1 hwt y (DataW.weights_mem_each (j := j) (by rw [List.getElem?_append_left (by simpa using hj)]; exact h1) (by rw [List.getElem?_append_left (by simpa using hj)]; exact h2) y hy)
        simpa using this
  obtain ⟨dd, a0, k0, rfl, hI0, hok0⟩ := strs_in (hval2 0 45 v0 rfl rfl) h0 (hw 0 45 d0 rfl rfl)
  obtain ⟨cc, a1, k1, rfl, hI1, hok1⟩ := u8s_in (hval2 1 46 v1 rfl rfl) h1 (hw 1 46 d1 rfl rfl)
  obtain ⟨oo, a2, k2, rfl, hI2, hok2⟩ := u16s_in (hval2 2 47 v2 rfl rfl) h2 (hw 2 47 d2 rfl rfl)
  have fin : ∀ (e : Ending) (w' : World), (∃ v L' , e = .returned v ∧ v = .bool true ∧ L' = [old W.heap] ∧ SL ⟨W.os, W.tape, W.output⟩ L' w') → ∃ v, e = .returned v ∧ Rows.ipWholeSpec.post enc Try.prog Try.f4 false true false false W #[.slice a0 dd.length k0, .slice a1 cc.length k1, .slice a2 oo.length k2] v w' := by
        rintro e w' ⟨_, _, rfl, rfl, rfl, hs⟩
        exact ⟨_, rfl, post_of_old (fn := Try.f4) (tb := 4) kin (by rw [Try.params4]; simp) Try.underlying4 (by rfl) rfl hW' rfl rfl rfl hs.1 hs.2.2.1 (old_of_SL hs (.head _ _))⟩
  exact calls_of_sato (args := [.slice a0 dd.length k0, .slice a1 cc.length k1, .slice a2 oo.length k2]) (whole_spec W.heap dd cc oo a0 a1 a2 k0 k1 k2 (hI1 := ⟨hI0⟩) (hI2 := ⟨hI1⟩) (hI3 := ⟨hI2⟩) (gt_all hok0 (Nat.zero_le _)) (gt_all hok1 (by decide)) (gt_all hok2 (by decide)) (by have := hI0.2.1; omega) (by have := hI1.2.1; omega) (by have := hI2.2.1; omega)) (fun v L' w' ⟨hv, hL⟩ hs => fin _ _ ⟨v, L', rfl, hv, hL, hs⟩)
theorem whole_holds : Rows.IpWholeSaid :=
  OpenClaim.holds_of_wide 4 Try.f4 rfl rfl rfl rfl rfl rfl rfl ⟨rfl, rfl, rfl, rfl, rfl⟩ rfl rfl rfl rfl rfl (by kernel_rfl) Try.func4 (by kernel_rfl)
        (of_decide_eq_true (by kernel_rfl)) (by unfold Func.isWrapper; first | (rw [if_pos (by decide +kernel)]; kernel_rfl) | (rw [if_neg (by decide +kernel)]; exact ⟨rfl, rfl⟩))
        (fun os started H enc _ => whole_lifted os started H enc)
end Go.Proofs.Ytmhkmcoobpfkcaa
    
