/- Proved: RecordFrames returns true at every input and leaves its input as it was; the package variables that the row lists hold what the text lays (the card ties them; the tie is given). No condition beside the given form of the statement. -/
import Derived.Test.YthbpjjlinebooaaDoorKi
import Derived.Test.YthbpjjlinebooaaDoorRl
set_option linter.all false

namespace Go.Proofs.YthbpjjlinebooaaDoor
set_option maxRecDepth 20000
open Go Pw Go.ChangeShapes Go.WideShapes Go.ChangeAt Go.RowKit
theorem laid_met_frames (os : Os) : laidMet Tryd.prog Rows.recordFramesRow.laid ((laidWorld os).forCall (fun _ _ => 0) ⟨#[], #[.agg #[.int .u8 0, .string ⟨#[]⟩], .int .u8 0, .string ⟨#[]⟩], []⟩).memory :=
  laidMet_of_run' 900 (by kernel_rfl) (by kernel_rfl)
theorem reads_frames (os : Os) {H : Type} (enc : TypeId × Value → H) : ∃ places, DataW.whole enc Tryd.prog ((laidWorld os).forCall (fun _ _ => 0) ⟨#[], #[.agg #[.int .u8 0, .string ⟨#[]⟩], .int .u8 0, .string ⟨#[]⟩], []⟩).memory Tryd.f8.params.toList Rows.recordFramesSpec.vars false #[.agg #[.int .u8 0, .string ⟨#[]⟩], .int .u8 0, .string ⟨#[]⟩].toList 8 = some ([.agg [.lit (.int .u8 0), .lit (.string [])], .lit (.int .u8 0), .lit (.string [])], [], places) :=
  ⟨[], by kernel_rfl⟩
theorem frames_contract (H : Type) (enc : TypeId × Value → H) (W : World) (base : Nat) (args : Array Value) (ds gs : List (DataW H)) (before : List MemPlace)
    (hval : ∀ (j : Nat) t v, Tryd.f8.params[j]? = some t → args[j]? = some v → Value.okWide Tryd.prog W .any base t v)
    (hW : DataW.Whole enc Tryd.prog Tryd.f8.params.toList Rows.recordFramesSpec.vars false W args.toList ds gs before)
    (hwt : (DataW.weightsEach Tryd.prog (Tryd.f8.params.toList ++ (OpenSpec.ofChange Rows.recordFramesSpec).bare.plain.varTypes Tryd.prog) (ds ++ gs)).all (· ≤ reachBytes) = true)
    (hla : laidMetH Tryd.prog Rows.recordFramesRow.laid W) (hsh : W.ShapedOpen Tryd.prog) :
    Calls Tryd.prog 8 args W fun e W' => ∃ v, e = .returned v ∧ Rows.recordFramesSpec.post enc Tryd.prog Tryd.f8 false true false false W args v W' := by
  have hW' := hW
  obtain ⟨p, q, hA0, hV, hbef, hfz, hnd⟩ := hW
  have hA : DataW.TrodAll enc Tryd.prog W 0 (fun _ => true) true Tryd.f8.params.toList args.toList ds p := hA0
  have hval2 := hval
  rw [Tryd.params8] at hA hval2
  obtain ⟨v0, vs0, d0, ds0, p0, q0, hargs, rfl, rfl, h0, r0⟩ := trodAll_cons hA
  obtain ⟨v1, vs1, d1, ds1, p1, q1, rfl, rfl, rfl, h1, r1⟩ := trodAll_cons r0
  obtain ⟨v2, vs2, d2, ds2, p2, q2, rfl, rfl, rfl, h2, r2⟩ := trodAll_cons r1
  obtain ⟨rfl, rfl, rfl⟩ := trodAll_nil r2
  obtain rfl : args = #[v0, v1, v2] := by cases args; simp_all
  obtain ⟨rfl, rfl⟩ := trodVars_none hV
  rw [Tryd.params8] at hwt
  have hw : ∀ (j : Nat) (t : TypeId) (d : DataW H), [44, 5, 9][j]? = some t → [d0, d1, d2][j]? = some d → ∀ y ∈ d.weights Tryd.prog t, y ≤ reachBytes := fun j t d h1 h2 y hy => by
    have hj : j < 3 := by
      rcases Nat.lt_or_ge j 3 with h | h
      · exact h
      · rw [List.getElem?_eq_none (by simpa using h)] at h1; cases h1
    have := List.all_eq_true.1 hwt y (DataW.weights_mem_each (j := j) (by rw [List.getElem?_append_left (by simpa using hj)]; exact h1) (by rw [List.getElem?_append_left (by simpa using hj)]; exact h2) y hy)
    simpa using this
  obtain ⟨rc, ⟨rc1, rc2⟩, rfl⟩ := rc_in (hval2 0 44 v0 rfl rfl) h0 (hw 0 44 d0 rfl rfl)
  obtain ⟨kdI, rfl, kdl, kdu⟩ := open_int' Tryd.underlying5 (hval2 1 5 v1 rfl rfl) h1
  rw [IntKind.min_u8] at kdl
  rw [IntKind.max_u8] at kdu
  obtain ⟨kd, rfl, kdb⟩ := u_nat kdl kdu
  obtain ⟨s, rfl, hs⟩ := open_str Tryd.underlying9 (hw 2 9 d2 rfl rfl) (hval2 2 9 v2 rfl rfl) h2
  refine calls_of_satq (args := [.agg (recV rc).toArray, .int .u8 kd, str s]) (quA_at rfl hla hsh) (frames_spec rc kd s rc1 (by omega) (by omega) (by omega)) fun w' hold hos hout => ?_
  exact ⟨_, rfl, post_of_old (fn := Tryd.f8) (tb := 4) kin (by rw [Tryd.params8]; simp) Tryd.underlying4 (by rfl) rfl hW' rfl rfl rfl hos hout hold⟩
set_option maxRecDepth 100000 in
theorem frames_lifted (os : Os) (started : os.Started) (H : Type) (enc : TypeId × Value → H) (F : Stop.Interp) :
    ReturnsInHanded {} Tryd.checked os 8 .any ((OpenSpec.ofChange Rows.recordFramesSpec).preRow enc Tryd.prog Tryd.f8 Rows.recordFramesRow.domain false Rows.recordFramesRow.laid) (((OpenSpec.ofChange Rows.recordFramesSpec).at F).post enc Tryd.prog Tryd.f8 false true false false) := by
  obtain ⟨places, hx⟩ := reads_frames os enc
  refine returnsInHanded_of_row (C := Tryd.checked) (s := OpenSpec.ofChange Rows.recordFramesSpec) own started (by kernel_rfl) Tryd.func8
    (witness_row_at (enc := enc) (C := Tryd.checked) false (laidWorld os) #[.agg #[.int .u8 0, .string ⟨#[]⟩], .int .u8 0, .string ⟨#[]⟩] rfl (by kernel_rfl) (by kernel_rfl) (by kernel_rfl)
      (OpenSpec.preRow_of_cond 8 hx (by kernel_rfl) (fun k hk => by cases hk) (by kernel_rfl) (laid_met_frames os))) ?_
  intro W base args ds gs before hval hW _ _ hwt hla hsh _
  exact frames_contract H enc W base args ds gs before hval hW hwt hla hsh
theorem frames_said : Rows.RecordFramesSaid :=
  OpenClaim.holds_of_cond 8 Tryd.f8 rfl rfl rfl rfl rfl rfl rfl ⟨rfl, rfl, rfl, rfl, rfl⟩ rfl rfl rfl rfl rfl (by kernel_rfl) Tryd.func8 (by kernel_rfl)
    (of_decide_eq_true (by kernel_rfl)) (by unfold Func.isWrapper; first | (rw [if_pos (by decide +kernel)]; kernel_rfl) | (rw [if_neg (by decide +kernel)]; exact ⟨rfl, rfl⟩))
    (fun os started H enc _ F => by rw [OpenClaim.pre_eq_preRow]; exact frames_lifted os started H enc F)
theorem frames_plain (f : FuncId) (fn : Func) (hf : Tryd.pinned.checked.prog.funcNamed "pharos/pharoslaw25.RecordFrames" = some f) (hfn : Tryd.pinned.checked.prog.funcs[f]? = some fn) :
    false = Tryd.pinned.checked.prog.looks [] ∧ ∀ (j : Nat) t, fn.params[j]? = some t → Tryd.pinned.checked.prog.wantsStandIn t = false := by
  obtain rfl : f = 8 := Option.some.inj ((show Tryd.prog.funcNamed "pharos/pharoslaw25.RecordFrames" = some 8 by kernel_rfl).symm.trans hf) |>.symm
  obtain rfl : fn = Tryd.f8 := (Option.some.inj (Tryd.func8.symm.trans hfn)).symm
  refine ⟨by kernel_rfl, fun j t ht => ?_⟩
  rw [Tryd.params8] at ht
  have hm := Array.mem_of_getElem? ht
  have hall : (#[44, 5, 9] : Array TypeId).all (fun t => !Tryd.prog.wantsStandIn t) = true := by kernel_rfl
  have := Array.all_eq_true'.1 hall t hm
  have h2 : Tryd.prog.wantsStandIn t = false := by simpa using this
  exact h2
/-- The card. -/
theorem frames_holds : Rows.RecordFramesCardSaid :=
  Claim7.holds_tied_plain_at .later [] _ _ _ _ frames_said (fun _ h => by cases h) (by kernel_rfl) (fun _ h => by cases h) recordFrames_row_tie rfl ⟨rfl, rfl⟩ (by kernel_rfl) rfl frames_plain (by kernel_rfl)
end Go.Proofs.YthbpjjlinebooaaDoor

