/- Proved: RecordFar returns true at every input and leaves its input as it was; the package variables that the row lists hold what the text lays (the card ties them; the tie is given). No condition beside the given form of the statement. -/
import Derived.Test.YthbpjjlinebooaaDoorKi
import Derived.Test.YthbpjjlinebooaaDoorRn
set_option linter.all false

namespace Go.Proofs.YthbpjjlinebooaaDoor
set_option maxRecDepth 20000
open Go Pw Go.ChangeShapes Go.WideShapes Go.ChangeAt Go.RowKit
theorem laid_met_far (os : Os) : laidMet Tryd.prog Rows.recordFarRow.laid ((laidWorld os).forCall (fun _ _ => 0) ⟨#[], #[.int .u8 0, .int .i8 0], []⟩).memory :=
  laidMet_of_run' 900 (by kernel_rfl) (by kernel_rfl)
theorem reads_far (os : Os) {H : Type} (enc : TypeId × Value → H) : ∃ places, DataW.whole enc Tryd.prog ((laidWorld os).forCall (fun _ _ => 0) ⟨#[], #[.int .u8 0, .int .i8 0], []⟩).memory Tryd.f4.params.toList Rows.recordFarSpec.vars false #[.int .u8 0, .int .i8 0].toList 8 = some ([.lit (.int .u8 0), .lit (.int .i8 0)], [], places) :=
  ⟨[], by kernel_rfl⟩
theorem far_contract (H : Type) (enc : TypeId × Value → H) (W : World) (base : Nat) (args : Array Value) (ds gs : List (DataW H)) (before : List MemPlace)
    (hval : ∀ (j : Nat) t v, Tryd.f4.params[j]? = some t → args[j]? = some v → Value.okWide Tryd.prog W .any base t v)
    (hW : DataW.Whole enc Tryd.prog Tryd.f4.params.toList Rows.recordFarSpec.vars false W args.toList ds gs before)
    (hwt : (DataW.weightsEach Tryd.prog (Tryd.f4.params.toList ++ (OpenSpec.ofChange Rows.recordFarSpec).bare.plain.varTypes Tryd.prog) (ds ++ gs)).all (· ≤ reachBytes) = true)
    (hla : laidMetH Tryd.prog Rows.recordFarRow.laid W) (hsh : W.ShapedOpen Tryd.prog) :
    Calls Tryd.prog 4 args W fun e W' => ∃ v, e = .returned v ∧ Rows.recordFarSpec.post enc Tryd.prog Tryd.f4 false true false false W args v W' := by
  have hW' := hW
  obtain ⟨p, q, hA0, hV, hbef, hfz, hnd⟩ := hW
  have hA : DataW.TrodAll enc Tryd.prog W 0 (fun _ => true) true Tryd.f4.params.toList args.toList ds p := hA0
  have hval2 := hval
  rw [Tryd.params4] at hA hval2
  obtain ⟨v0, vs0, d0, ds0, p0, q0, hargs, rfl, rfl, h0, r0⟩ := trodAll_cons hA
  obtain ⟨v1, vs1, d1, ds1, p1, q1, rfl, rfl, rfl, h1, r1⟩ := trodAll_cons r0
  obtain ⟨rfl, rfl, rfl⟩ := trodAll_nil r1
  obtain rfl : args = #[v0, v1] := by cases args; simp_all
  obtain ⟨rfl, rfl⟩ := trodVars_none hV
  rw [Tryd.params4] at hwt
  have hw : ∀ (j : Nat) (t : TypeId) (d : DataW H), [5, 39][j]? = some t → [d0, d1][j]? = some d → ∀ y ∈ d.weights Tryd.prog t, y ≤ reachBytes := fun j t d h1 h2 y hy => by
    have hj : j < 2 := by
      rcases Nat.lt_or_ge j 2 with h | h
      · exact h
      · rw [List.getElem?_eq_none (by simpa using h)] at h1; cases h1
    have := List.all_eq_true.1 hwt y (DataW.weights_mem_each (j := j) (by rw [List.getElem?_append_left (by simpa using hj)]; exact h1) (by rw [List.getElem?_append_left (by simpa using hj)]; exact h2) y hy)
    simpa using this
  obtain ⟨kdI, rfl, kdl, kdu⟩ := open_int' Tryd.underlying5 (hval2 0 5 v0 rfl rfl) h0
  rw [IntKind.min_u8] at kdl
  rw [IntKind.max_u8] at kdu
  obtain ⟨kd, rfl, kdb⟩ := u_nat kdl kdu
  obtain ⟨ov, rfl, ovl, ovu⟩ := open_int' Tryd.underlying39 (hval2 1 39 v1 rfl rfl) h1
  refine calls_of_satq (args := [.int .u8 kd, .int .i8 ov]) (quA_at rfl hla hsh) (far_spec kd ov (by omega) (show (-128 : Int) ≤ ov from ovl) (show ov ≤ (127 : Int) from ovu)) fun w' hold hos hout => ?_
  exact ⟨_, rfl, post_of_old (fn := Tryd.f4) (tb := 4) kin (by rw [Tryd.params4]; simp) Tryd.underlying4 (by rfl) rfl hW' rfl rfl rfl hos hout hold⟩
set_option maxRecDepth 100000 in
theorem far_lifted (os : Os) (started : os.Started) (H : Type) (enc : TypeId × Value → H) (F : Stop.Interp) :
    ReturnsInHanded {} Tryd.checked os 4 .any ((OpenSpec.ofChange Rows.recordFarSpec).preRow enc Tryd.prog Tryd.f4 Rows.recordFarRow.domain false Rows.recordFarRow.laid) (((OpenSpec.ofChange Rows.recordFarSpec).at F).post enc Tryd.prog Tryd.f4 false true false false) := by
  obtain ⟨places, hx⟩ := reads_far os enc
  refine returnsInHanded_of_row (C := Tryd.checked) (s := OpenSpec.ofChange Rows.recordFarSpec) own started (by kernel_rfl) Tryd.func4
    (witness_row_at (enc := enc) (C := Tryd.checked) false (laidWorld os) #[.int .u8 0, .int .i8 0] rfl (by kernel_rfl) (by kernel_rfl) (by kernel_rfl)
      (OpenSpec.preRow_of_cond 8 hx (by kernel_rfl) (fun k hk => by cases hk) (by kernel_rfl) (laid_met_far os))) ?_
  intro W base args ds gs before hval hW _ _ hwt hla hsh _
  exact far_contract H enc W base args ds gs before hval hW hwt hla hsh
theorem far_said : Rows.RecordFarSaid :=
  OpenClaim.holds_of_cond 4 Tryd.f4 rfl rfl rfl rfl rfl rfl rfl ⟨rfl, rfl, rfl, rfl, rfl⟩ rfl rfl rfl rfl rfl (by kernel_rfl) Tryd.func4 (by kernel_rfl)
    (of_decide_eq_true (by kernel_rfl)) (by unfold Func.isWrapper; first | (rw [if_pos (by decide +kernel)]; kernel_rfl) | (rw [if_neg (by decide +kernel)]; exact ⟨rfl, rfl⟩))
    (fun os started H enc _ F => by rw [OpenClaim.pre_eq_preRow]; exact far_lifted os started H enc F)
theorem far_plain (f : FuncId) (fn : Func) (hf : Tryd.pinned.checked.prog.funcNamed "pharos/pharoslaw25.RecordFar" = some f) (hfn : Tryd.pinned.checked.prog.funcs[f]? = some fn) :
    false = Tryd.pinned.checked.prog.looks [] ∧ ∀ (j : Nat) t, fn.params[j]? = some t → Tryd.pinned.checked.prog.wantsStandIn t = false := by
  obtain rfl : f = 4 := Option.some.inj ((show Tryd.prog.funcNamed "pharos/pharoslaw25.RecordFar" = some 4 by kernel_rfl).symm.trans hf) |>.symm
  obtain rfl : fn = Tryd.f4 := (Option.some.inj (Tryd.func4.symm.trans hfn)).symm
  refine ⟨by kernel_rfl, fun j t ht => ?_⟩
  rw [Tryd.params4] at ht
  have hm := Array.mem_of_getElem? ht
  have hall : (#[5, 39] : Array TypeId).all (fun t => !Tryd.prog.wantsStandIn t) = true := by kernel_rfl
  have := Array.all_eq_true'.1 hall t hm
  have h2 : Tryd.prog.wantsStandIn t = false := by simpa using this
  exact h2
/-- The card. -/
theorem far_holds : Rows.RecordFarCardSaid :=
  Claim7.holds_tied_plain_at .later [] _ _ _ _ far_said (fun _ h => by cases h) (by kernel_rfl) (fun _ h => by cases h) recordFar_row_tie rfl ⟨rfl, rfl⟩ (by kernel_rfl) rfl far_plain (by kernel_rfl)
end Go.Proofs.YthbpjjlinebooaaDoor

