/- Proved: MemPlays returns true at every input and leaves its input as it was. No condition beside the given form of the statement. -/
import Derived.Test.YtpidkdkbgjnhlaaOutC
set_option linter.all false
namespace Go.Proofs.Ytpidkdkbgjnhlaa
set_option maxRecDepth 20000
open Go Pw Go.ChangeShapes Go.WideShapes Go.ChangeAt Go.RowKit
set_option maxRecDepth 100000 in
theorem plays_lifted (os : Os) (started : os.Started) (H : Type) (enc : TypeId × Value → H) :
    ReturnsInHanded {} Try.checked os 5 .any (Rows.memPlaysSpec.pre6 enc Try.prog Try.f5 Rows.memPlaysRow.domain false) (Rows.memPlaysSpec.post enc Try.prog Try.f5 false true false false) := by
  refine returnsInHanded_of_change_sized (C := Try.checked) own started (by kernel_rfl) Try.func5
    (ChangeSpec.witness6 (C := Try.checked) false ⟨#[], #[.int .i64 0, .int .u32 0, .int .i64 0, .int .i64 0, .slice none 0 0], []⟩ 8 (by kernel_rfl) (by kernel_rfl) (by kernel_rfl) (by kernel_rfl)) ?_
  intro W base args ds gs before hval hW _ hwt _
  have hW' := hW
  obtain ⟨p, q, hA0, hV, hbef, hfz, hnd⟩ := hW
  have hA : DataW.TrodAll enc Try.prog W 0 (fun _ => true) true Try.f5.params.toList args.toList ds p := hA0
  have hval2 := hval
  rw [Try.params5] at hA hval2
  obtain ⟨v0, vs0, d0, ds0, p0, q0, hargs, rfl, rfl, h0, r0⟩ := trodAll_cons hA
  obtain ⟨v1, vs1, d1, ds1, p1, q1, rfl, rfl, rfl, h1, r1⟩ := trodAll_cons r0
  obtain ⟨v2, vs2, d2, ds2, p2, q2, rfl, rfl, rfl, h2, r2⟩ := trodAll_cons r1
  obtain ⟨v3, vs3, d3, ds3, p3, q3, rfl, rfl, rfl, h3, r3⟩ := trodAll_cons r2
  obtain ⟨v4, vs4, d4, ds4, p4, q4, rfl, rfl, rfl, h4, r4⟩ := trodAll_cons r3
  obtain ⟨rfl, rfl, rfl⟩ := trodAll_nil r4
  obtain rfl : args = #[v0, v1, v2, v3, v4] := by cases args; simp_all
  obtain ⟨rfl, rfl⟩ := trodVars_none hV
  rw [Try.params5] at hwt
  have hw : ∀ (j : Nat) (t : TypeId) (d : DataW H), [3, 30, 3, 3, 23][j]? = some t → [d0, d1, d2, d3, d4][j]? = some d → ∀ y ∈ d.weights Try.prog t, y ≤ reachBytes := fun j t d h1 h2 y hy => by
    have hj : j < 5 := by
      rcases Nat.lt_or_ge j 5 with h | h
      · exact h
      · rw [List.getElem?_eq_none (by simpa using h)] at h1; cases h1
    have := List.all_eq_true.1 hwt y (DataW.weights_mem_each (j := j) (by rw [List.getElem?_append_left (by simpa using hj)]; exact h1) (by rw [List.getElem?_append_left (by simpa using hj)]; exact h2) y hy)
    simpa using this
  obtain ⟨sz, rfl, szl, szu⟩ := open_int' Try.underlying3 (hval2 0 3 v0 rfl rfl) h0
  obtain ⟨at_I, rfl, at_l, at_u⟩ := open_int' Try.underlying30 (hval2 1 30 v1 rfl rfl) h1
  rw [IntKind.min_u32] at at_l
  rw [IntKind.max_u32] at at_u
  obtain ⟨at_, rfl, at_b⟩ := u_nat at_l at_u
  obtain ⟨ee, rfl, eel, eeu⟩ := open_int' Try.underlying3 (hval2 2 3 v2 rfl rfl) h2
  obtain ⟨cc, rfl, ccl, ccu⟩ := open_int' Try.underlying3 (hval2 3 3 v3 rfl rfl) h3
  obtain ⟨l, hI, hok⟩ := script_in (hval2 4 23 v4 rfl rfl) h4 (hw 4 23 d4 rfl rfl)
  have fin : ∀ (e : Ending) (w' : World), (∃ v L' , e = .returned v ∧ v = .bool true ∧ L' = [old W.heap] ∧ SL ⟨W.os, W.tape, W.output⟩ L' w') → ∃ v, e = .returned v ∧ Rows.memPlaysSpec.post enc Try.prog Try.f5 false true false false W #[.int .i64 sz, .int .u32 (at_ : Nat), .int .i64 ee, .int .i64 cc, v4] v w' := by
    rintro e w' ⟨_, _, rfl, rfl, rfl, hs⟩
    exact ⟨_, rfl, post_of_old (fn := Try.f5) (tb := 4) kin (by rw [Try.params5]; simp) Try.underlying4 (by rfl) rfl hW' rfl rfl rfl hs.1 hs.2.2.1 (old_of_SL hs (.head _ _))⟩
  have hsat : Sat Try.prog 5 [.int .i64 sz, .int .u32 (at_ : Nat), .int .i64 ee, .int .i64 cc, v4] [old W.heap] (fun u L' => u = .bool true ∧ L' = [old W.heap]) := by
    by_cases hs : sz < 1 ∨ 1048576 < sz
    · exact plays_size W.heap v4 l hI hok sz ee cc at_ hs
    · obtain ⟨n, rfl⟩ := Int.eq_ofNat_of_zero_le (show 0 ≤ sz by omega)
      by_cases hp : npE n at_ ee cc = 0
      · exact plays_pool W.heap v4 l hI hok n at_ ee cc (by omega) (by omega) (by omega) hp
      · exact plays_nopool W.heap v4 l hI hok n at_ ee cc (by omega) (by omega) (by omega) hp
  exact calls_of_sat (hsat) (fun v L' w' ⟨hv, hL⟩ hs => fin _ _ ⟨v, L', rfl, hv, hL, hs⟩)

theorem plays_holds : Rows.MemPlaysSaid :=
  OpenClaim.holds_of_wide 5 Try.f5 rfl rfl rfl rfl rfl rfl rfl ⟨rfl, rfl, rfl, rfl, rfl⟩ rfl rfl rfl rfl rfl (by kernel_rfl) Try.func5 (by kernel_rfl)
    (of_decide_eq_true (by kernel_rfl)) (by unfold Func.isWrapper; first | (rw [if_pos (by decide +kernel)]; kernel_rfl) | (rw [if_neg (by decide +kernel)]; exact ⟨rfl, rfl⟩))
    (fun os started H enc _ => plays_lifted os started H enc)
end Go.Proofs.Ytpidkdkbgjnhlaa
