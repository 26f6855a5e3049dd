/- Proved: IpPieces returns true at every input and leaves its input as it was. No condition beside the given form of the statement. -/
import Derived.Test.YtmhkmcoobpfkcaaKi
import Derived.Test.YtmhkmcoobpfkcaaSe
set_option linter.all false

namespace Go.Proofs.Ytmhkmcoobpfkcaa
set_option maxRecDepth 20000
open Go Pw Go.ChangeShapes Go.WideShapes Go.ChangeAt Go.RowKit
set_option maxRecDepth 100000 in
theorem pieces_lifted (os : Os) (started : os.Started) (H : Type) (enc : TypeId × Value → H) :
        ReturnsInHanded {} Try.checked os 3 .any (Rows.ipPiecesSpec.pre6 enc Try.prog Try.f3 Rows.ipPiecesRow.domain false) (Rows.ipPiecesSpec.post enc Try.prog Try.f3 false true false false) := by
  refine returnsInHanded_of_change_sized (C := Try.checked) own started (by kernel_rfl) Try.func3
        (ChangeSpec.witness6 (C := Try.checked) false ⟨#[], #[.int .i64 0, .int .u64 0, .slice none 0 0], []⟩ 8 (by kernel_rfl) (by kernel_rfl) (by kernel_rfl) (by kernel_rfl)) ?_
  intro W base args ds gs before hval hW _ hwt _
  have hW' := hW
  obtain ⟨p, q, hA0, hV, hbef, hfz, hnd⟩ := hW
  have hA : DataW.TrodAll enc Try.prog W 0 (fun _ => true) true Try.f3.params.toList args.toList ds p := hA0
  have hval2 := hval
  rw [Try.params3] at hA hval2
  obtain ⟨v0, vs0, d0, ds0, p0, q0, hargs, rfl, rfl, h0, r0⟩ := trodAll_cons hA
  obtain ⟨v1, vs1, d1, ds1, p1, q1, rfl, rfl, rfl, h1, r1⟩ := trodAll_cons r0
  obtain ⟨v2, vs2, d2, ds2, p2, q2, rfl, rfl, rfl, h2, r2⟩ := trodAll_cons r1
  obtain ⟨rfl, rfl, rfl⟩ := trodAll_nil r2
  obtain rfl : args = #[v0, v1, v2] := by cases args; simp_all
  obtain ⟨rfl, rfl⟩ := trodVars_none hV
  rw [Try.params3] at hwt
  have hw : ∀ (j : Nat) (t : TypeId) (d : DataW H), [3, 22, 23][j]? = some t → [d0, d1, d2][j]? = some d → ∀ y ∈ d.weights Try.prog t, y ≤ reachBytes := fun j t d h1 h2 y hy => by
        have hj : j < 3 := by
          rcases Nat.lt_or_ge j 3 with h | h
          · exact h
          · rw [List.getElem?_eq_none (by simpa using h)] at h1; cases h1
        have := List.all_eq_true.1 hwt y (DataW.weights_mem_each (j := j) (by rw [List.getElem?_append_left (by simpa using hj)]; exact h1) (by rw [List.getElem?_append_left (by simpa using hj)]; exact h2) y hy)
        simpa using this
  obtain ⟨most, rfl, mostl, mostu⟩ := open_int' Try.underlying3 (hval2 0 3 v0 rfl rfl) h0
  rw [IntKind.min_i64] at mostl
  rw [IntKind.max_i64] at mostu
  obtain ⟨lifeI, rfl, lifel, lifeu⟩ := open_int' Try.underlying22 (hval2 1 22 v1 rfl rfl) h1
  rw [IntKind.min_u64] at lifel
  rw [IntKind.max_u64] at lifeu
  obtain ⟨life, rfl, lifeb⟩ := u_nat lifel lifeu
  obtain ⟨l, a2, k2, rfl, hI, hok⟩ := script_in (hval2 2 23 v2 rfl rfl) h2 (hw 2 23 d2 rfl rfl)
  have fin : ∀ (e : Ending) (w' : World), (∃ v L' , e = .returned v ∧ v = .bool true ∧ L' = [old W.heap] ∧ SL ⟨W.os, W.tape, W.output⟩ L' w') → ∃ v, e = .returned v ∧ Rows.ipPiecesSpec.post enc Try.prog Try.f3 false true false false W #[.int .i64 most, .int .u64 (life : Nat), .slice a2 l.length k2] v w' := by
        rintro e w' ⟨_, _, rfl, rfl, rfl, hs⟩
        exact ⟨_, rfl, post_of_old (fn := Try.f3) (tb := 4) kin (by rw [Try.params3]; simp) Try.underlying4 (by rfl) rfl hW' rfl rfl rfl hs.1 hs.2.2.1 (old_of_SL hs (.head _ _))⟩
  exact calls_of_sato (args := [.int .i64 most, .int .u64 (life : Nat), .slice a2 l.length k2]) (pieces_spec W.heap l a2 k2 (hI := ⟨hI⟩) (hIP := ⟨fun hn => inp_at hI hn⟩) (gt_all hok stp0) (by have := hI.2.1; omega) most life (by omega) (by omega) (by omega)) (fun v L' w' ⟨hv, hL⟩ hs => fin _ _ ⟨v, L', rfl, hv, hL, hs⟩)
theorem pieces_holds : Rows.IpPiecesSaid :=
  OpenClaim.holds_of_wide 3 Try.f3 rfl rfl rfl rfl rfl rfl rfl ⟨rfl, rfl, rfl, rfl, rfl⟩ rfl rfl rfl rfl rfl (by kernel_rfl) Try.func3 (by kernel_rfl)
        (of_decide_eq_true (by kernel_rfl)) (by unfold Func.isWrapper; first | (rw [if_pos (by decide +kernel)]; kernel_rfl) | (rw [if_neg (by decide +kernel)]; exact ⟨rfl, rfl⟩))
        (fun os started H enc _ => pieces_lifted os started H enc)
end Go.Proofs.Ytmhkmcoobpfkcaa
    
