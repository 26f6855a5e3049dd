/- Proved: VblkNone returns true at every input and leaves its input as it was. No condition beside the given form of the statement. -/
import Derived.Test.YtfgpnipnaaeafaaLc
import Derived.Test.YtfgpnipnaaeafaaLb
set_option linter.all false

namespace Go.Proofs.Ytfgpnipnaaeafaa
set_option maxRecDepth 20000
open Go Pw Go.ChangeShapes Go.WideShapes Go.ChangeAt Go.RowKit
set_option maxRecDepth 100000 in
theorem none_lifted (os : Os) (started : os.Started) (H : Type) (enc : TypeId × Value → H) :
        ReturnsInHanded {} Try.checked os 4 .any (Rows.vblkNoneSpec.pre6 enc Try.prog Try.f4 Rows.vblkNoneRow.domain false) (Rows.vblkNoneSpec.post enc Try.prog Try.f4 false true false false) := by
  refine returnsInHanded_of_change_sized (C := Try.checked) own started (by kernel_rfl) Try.func4
        (ChangeSpec.witness6 (C := Try.checked) false ⟨#[], #[.int .u32 0], []⟩ 8 (by kernel_rfl) (by kernel_rfl) (by kernel_rfl) (by kernel_rfl)) ?_
  intro W base args ds gs before hval hW _ hwt _
  have hW' := hW
  obtain ⟨p, q, hA0, hV, hbef, hfz, hnd⟩ := hW
  have hA : DataW.TrodAll enc Try.prog W 0 (fun _ => true) true Try.f4.params.toList args.toList ds p := hA0
  have hval2 := hval
  rw [Try.params4] at hA hval2
  obtain ⟨v0, vs0, d0, ds0, p0, q0, hargs, rfl, rfl, h0, r0⟩ := trodAll_cons hA
  obtain ⟨rfl, rfl, rfl⟩ := trodAll_nil r0
  obtain rfl : args = #[v0] := by cases args; simp_all
  obtain ⟨rfl, rfl⟩ := trodVars_none hV
  rw [Try.params4] at hwt
  have hw : ∀ (j : Nat) (t : TypeId) (d : DataW H), [30][j]? = some t → [d0][j]? = some d → ∀ y ∈ d.weights Try.prog t, y ≤ reachBytes := fun j t d h1 h2 y hy => by
        have hj : j < 1 := by
          rcases Nat.lt_or_ge j 1 with h | h
          · exact h
          · rw [List.getElem?_eq_none (by simpa using h)] at h1; cases h1
        have := List.all_eq_true.1 hwt y (DataW.weights_mem_each (j := j) (by rw [List.getElem?_append_left (by simpa using hj)]; exact h1) (by rw [List.getElem?_append_left (by simpa using hj)]; exact h2) y hy)
        simpa using this
  obtain ⟨bI, rfl, bl, bu⟩ := open_int' Try.underlying30 (hval2 0 30 v0 rfl rfl) h0
  rw [IntKind.min_u32] at bl
  rw [IntKind.max_u32] at bu
  obtain ⟨b, rfl, bb⟩ := u_nat bl bu
  have fin : ∀ (e : Ending) (w' : World), (∃ v L' , e = .returned v ∧ v = .bool true ∧ L' = [old W.heap] ∧ SL ⟨W.os, W.tape, W.output⟩ L' w') → ∃ v, e = .returned v ∧ Rows.vblkNoneSpec.post enc Try.prog Try.f4 false true false false W #[.int .u32 (b : Nat)] v w' := by
        rintro e w' ⟨_, _, rfl, rfl, rfl, hs⟩
        exact ⟨_, rfl, post_of_old (fn := Try.f4) (tb := 4) kin (by rw [Try.params4]; simp) Try.underlying4 (by rfl) rfl hW' rfl rfl rfl hs.1 hs.2.2.1 (old_of_SL hs (.head _ _))⟩
  exact calls_of_sato (args := [.int .u32 (b : Nat)]) ((((none_law b (by omega)).frame (F := [old W.heap])).post (by rintro u L' ⟨_, ⟨rfl, rfl⟩, rfl⟩; exact ⟨_, Imp.refl _, rfl, rfl⟩))) (fun v L' w' ⟨hv, hL⟩ hs => fin _ _ ⟨v, L', rfl, hv, hL, hs⟩)
theorem none_holds : Rows.VblkNoneSaid :=
  OpenClaim.holds_of_wide 4 Try.f4 rfl rfl rfl rfl rfl rfl rfl ⟨rfl, rfl, rfl, rfl, rfl⟩ rfl rfl rfl rfl rfl (by kernel_rfl) Try.func4 (by kernel_rfl)
        (of_decide_eq_true (by kernel_rfl)) (by unfold Func.isWrapper; first | (rw [if_pos (by decide +kernel)]; kernel_rfl) | (rw [if_neg (by decide +kernel)]; exact ⟨rfl, rfl⟩))
        (fun os started H enc _ => none_lifted os started H enc)
end Go.Proofs.Ytfgpnipnaaeafaa
    
