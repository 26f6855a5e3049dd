/- Proved: RingOnce returns true at every input and leaves its input as it was. No condition beside the given form of the statement. -/
import Derived.Test.YtcmafjngfcablaaKu
import Derived.Test.YtcmafjngfcablaaSa
import Derived.Test.YtcmafjngfcablaaSc
set_option linter.all false

namespace Go.Proofs.Ytcmafjngfcablaa
set_option maxRecDepth 20000
open Go Pw Go.ChangeShapes Go.WideShapes Go.ChangeAt Go.RowKit
set_option maxRecDepth 100000 in
theorem once_lifted (os : Os) (started : os.Started) (H : Type) (enc : TypeId × Value → H) :
        ReturnsInHanded {} Try.checked os 5 .any (Rows.ringOnceSpec.pre6 enc Try.prog Try.f5 Rows.ringOnceRow.domain false) (Rows.ringOnceSpec.post enc Try.prog Try.f5 false true false false) := by
  refine returnsInHanded_of_change_sized (C := Try.checked) own started (by kernel_rfl) Try.func5
        (ChangeSpec.witness6 (C := Try.checked) false ⟨#[], #[.int .u8 0, .slice none 0 0], []⟩ 8 (by kernel_rfl) (by kernel_rfl) (by kernel_rfl) (by kernel_rfl)) ?_
  intro W base args ds gs before hval hW _ hwt _
  have hW' := hW
  obtain ⟨p, q, hA0, hV, hbef, hfz, hnd⟩ := hW
  have hA : DataW.TrodAll enc Try.prog W 0 (fun _ => true) true Try.f5.params.toList args.toList ds p := hA0
  have hval2 := hval
  rw [Try.params5] at hA hval2
  obtain ⟨v0, vs0, d0, ds0, p0, q0, hargs, rfl, rfl, h0, r0⟩ := trodAll_cons hA
  obtain ⟨v1, vs1, d1, ds1, p1, q1, rfl, rfl, rfl, h1, r1⟩ := trodAll_cons r0
  obtain ⟨rfl, rfl, rfl⟩ := trodAll_nil r1
  obtain rfl : args = #[v0, v1] := by cases args; simp_all
  obtain ⟨rfl, rfl⟩ := trodVars_none hV
  rw [Try.params5] at hwt
  have hw : ∀ (j : Nat) (t : TypeId) (d : DataW H), [5, 52][j]? = some t → [d0, d1][j]? = some d → ∀ y ∈ d.weights Try.prog t, y ≤ reachBytes := fun j t d h1 h2 y hy => by
        have hj : j < 2 := by
          rcases Nat.lt_or_ge j 2 with h | h
          · exact h
          · rw [List.getElem?_eq_none (by simpa using h)] at h1; cases h1
        have := List.all_eq_true.1 hwt y (DataW.weights_mem_each (j := j) (by rw [List.getElem?_append_left (by simpa using hj)]; exact h1) (by rw [List.getElem?_append_left (by simpa using hj)]; exact h2) y hy)
        simpa using this
  obtain ⟨powerI, rfl, powerl, poweru⟩ := open_int' Try.underlying5 (hval2 0 5 v0 rfl rfl) h0
  rw [IntKind.min_u8] at powerl
  rw [IntKind.max_u8] at poweru
  obtain ⟨power, rfl, powerb⟩ := u_nat powerl poweru
  obtain ⟨l, a1, k1, rfl, hI1, hok1⟩ := script_in (hval2 1 52 v1 rfl rfl) h1 (hw 1 52 d1 rfl rfl)
  have fin : ∀ (e : Ending) (w' : World), (∃ v L' , e = .returned v ∧ v = .bool true ∧ L' = [old W.heap] ∧ SL ⟨W.os, W.tape, W.output⟩ L' w') → ∃ v, e = .returned v ∧ Rows.ringOnceSpec.post enc Try.prog Try.f5 false true false false W #[.int .u8 (power : Nat), .slice a1 l.length k1] v w' := by
        rintro e w' ⟨_, _, rfl, rfl, rfl, hs⟩
        exact ⟨_, rfl, post_of_old (fn := Try.f5) (tb := 4) kin (by rw [Try.params5]; simp) Try.underlying4 (by rfl) rfl hW' rfl rfl rfl hs.1 hs.2.2.1 (old_of_SL hs (.head _ _))⟩
  exact calls_of_sato (args := [.int .u8 (power : Nat), .slice a1 l.length k1]) (once_law W.heap power l a1 k1 (hI := ⟨hI1⟩) (hIP := ⟨fun hn => inp_at hI1 hn⟩) (by omega) (gt_all hok1 (stp0 _)) (by have := hI1.2.1; omega)) (fun v L' w' ⟨hv, hL⟩ hs => fin _ _ ⟨v, L', rfl, hv, hL, hs⟩)
theorem once_holds : Rows.RingOnceSaid :=
  OpenClaim.holds_of_wide 5 Try.f5 rfl rfl rfl rfl rfl rfl rfl ⟨rfl, rfl, rfl, rfl, rfl⟩ rfl rfl rfl rfl rfl (by kernel_rfl) Try.func5 (by kernel_rfl)
        (of_decide_eq_true (by kernel_rfl)) (by unfold Func.isWrapper; first | (rw [if_pos (by decide +kernel)]; kernel_rfl) | (rw [if_neg (by decide +kernel)]; exact ⟨rfl, rfl⟩))
        (fun os started H enc _ => once_lifted os started H enc)
end Go.Proofs.Ytcmafjngfcablaa
    
