/- Proved: RecordReads returns true at every input and leaves its input as it was; the package variables that the row lists hold what the text lays (the card ties them; the tie is given). No condition beside the given form of the statement. -/
import Derived.Test.YthbpjjlinebooaaDoorKi
import Derived.Test.YthbpjjlinebooaaDoorRo
set_option linter.all false

namespace Go.Proofs.YthbpjjlinebooaaDoor
set_option maxRecDepth 20000
open Go Pw Go.ChangeShapes Go.WideShapes Go.ChangeAt Go.RowKit
theorem laid_met_reads (os : Os) : laidMet Tryd.prog Rows.recordReadsRow.laid ((laidWorld os).forCall (fun _ _ => 0) ⟨#[], #[.string ⟨#[]⟩, .slice none 0 0], []⟩).memory :=
  laidMet_of_run' 900 (by kernel_rfl) (by kernel_rfl)
theorem reads_reads (os : Os) {H : Type} (enc : TypeId × Value → H) : ∃ places, DataW.whole enc Tryd.prog ((laidWorld os).forCall (fun _ _ => 0) ⟨#[], #[.string ⟨#[]⟩, .slice none 0 0], []⟩).memory Tryd.f3.params.toList Rows.recordReadsSpec.vars false #[.string ⟨#[]⟩, .slice none 0 0].toList 8 = some ([.lit (.string []), .nil], [], places) :=
  ⟨[], by kernel_rfl⟩
theorem reads_contract (H : Type) (enc : TypeId × Value → H) (W : World) (base : Nat) (args : Array Value) (ds gs : List (DataW H)) (before : List MemPlace)
    (hval : ∀ (j : Nat) t v, Tryd.f3.params[j]? = some t → args[j]? = some v → Value.okWide Tryd.prog W .any base t v)
    (hW : DataW.Whole enc Tryd.prog Tryd.f3.params.toList Rows.recordReadsSpec.vars false W args.toList ds gs before)
    (hwt : (DataW.weightsEach Tryd.prog (Tryd.f3.params.toList ++ (OpenSpec.ofChange Rows.recordReadsSpec).bare.plain.varTypes Tryd.prog) (ds ++ gs)).all (· ≤ reachBytes) = true)
    (hla : laidMetH Tryd.prog Rows.recordReadsRow.laid W) (hsh : W.ShapedOpen Tryd.prog) :
    Calls Tryd.prog 3 args W fun e W' => ∃ v, e = .returned v ∧ Rows.recordReadsSpec.post enc Tryd.prog Tryd.f3 false true false false W args v W' := by
  have hW' := hW
  obtain ⟨p, q, hA0, hV, hbef, hfz, hnd⟩ := hW
  have hA : DataW.TrodAll enc Tryd.prog W 0 (fun _ => true) true Tryd.f3.params.toList args.toList ds p := hA0
  have hval2 := hval
  rw [Tryd.params3] at hA hval2
  obtain ⟨v0, vs0, d0, ds0, p0, q0, hargs, rfl, rfl, h0, r0⟩ := trodAll_cons hA
  obtain ⟨v1, vs1, d1, ds1, p1, q1, rfl, rfl, rfl, h1, r1⟩ := trodAll_cons r0
  obtain ⟨rfl, rfl, rfl⟩ := trodAll_nil r1
  obtain rfl : args = #[v0, v1] := by cases args; simp_all
  obtain ⟨rfl, rfl⟩ := trodVars_none hV
  rw [Tryd.params3] at hwt
  have hw : ∀ (j : Nat) (t : TypeId) (d : DataW H), [9, 22][j]? = some t → [d0, d1][j]? = some d → ∀ y ∈ d.weights Tryd.prog t, y ≤ reachBytes := fun j t d h1 h2 y hy => by
    have hj : j < 2 := by
      rcases Nat.lt_or_ge j 2 with h | h
      · exact h
      · rw [List.getElem?_eq_none (by simpa using h)] at h1; cases h1
    have := List.all_eq_true.1 hwt y (DataW.weights_mem_each (j := j) (by rw [List.getElem?_append_left (by simpa using hj)]; exact h1) (by rw [List.getElem?_append_left (by simpa using hj)]; exact h2) y hy)
    simpa using this
  obtain ⟨s, rfl, hs⟩ := open_str Tryd.underlying9 (hw 0 9 d0 rfl rfl) (hval2 0 9 v0 rfl rfl) h0
  obtain ⟨ps, a1, k1, rfl, hI1, hok1⟩ := pcs_in (hval2 1 22 v1 rfl rfl) h1 (hw 1 22 d1 rfl rfl)
  refine calls_of_satx (args := [str s, .slice a1 ps.length k1]) (quA_at rfl hla hsh) (reads_spec s ps W.heap a1 k1 (hI := ⟨hI1, quA_at rfl hla hsh⟩) (gt_all hok1 (by decide)) (by omega) (by have := hI1.2.1; omega)) fun w' hold hos hout => ?_
  exact ⟨_, rfl, post_of_old (fn := Tryd.f3) (tb := 4) kin (by rw [Tryd.params3]; simp) Tryd.underlying4 (by rfl) rfl hW' rfl rfl rfl hos hout hold⟩
set_option maxRecDepth 100000 in
theorem reads_lifted (os : Os) (started : os.Started) (H : Type) (enc : TypeId × Value → H) (F : Stop.Interp) :
    ReturnsInHanded {} Tryd.checked os 3 .any ((OpenSpec.ofChange Rows.recordReadsSpec).preRow enc Tryd.prog Tryd.f3 Rows.recordReadsRow.domain false Rows.recordReadsRow.laid) (((OpenSpec.ofChange Rows.recordReadsSpec).at F).post enc Tryd.prog Tryd.f3 false true false false) := by
  obtain ⟨places, hx⟩ := reads_reads os enc
  refine returnsInHanded_of_row (C := Tryd.checked) (s := OpenSpec.ofChange Rows.recordReadsSpec) own started (by kernel_rfl) Tryd.func3
    (witness_row_at (enc := enc) (C := Tryd.checked) false (laidWorld os) #[.string ⟨#[]⟩, .slice none 0 0] rfl (by kernel_rfl) (by kernel_rfl) (by kernel_rfl)
      (OpenSpec.preRow_of_cond 8 hx (by kernel_rfl) (fun k hk => by cases hk) (by kernel_rfl) (laid_met_reads os))) ?_
  intro W base args ds gs before hval hW _ _ hwt hla hsh _
  exact reads_contract H enc W base args ds gs before hval hW hwt hla hsh
theorem reads_said : Rows.RecordReadsSaid :=
  OpenClaim.holds_of_cond 3 Tryd.f3 rfl rfl rfl rfl rfl rfl rfl ⟨rfl, rfl, rfl, rfl, rfl⟩ rfl rfl rfl rfl rfl (by kernel_rfl) Tryd.func3 (by kernel_rfl)
    (of_decide_eq_true (by kernel_rfl)) (by unfold Func.isWrapper; first | (rw [if_pos (by decide +kernel)]; kernel_rfl) | (rw [if_neg (by decide +kernel)]; exact ⟨rfl, rfl⟩))
    (fun os started H enc _ F => by rw [OpenClaim.pre_eq_preRow]; exact reads_lifted os started H enc F)
theorem reads_plain (f : FuncId) (fn : Func) (hf : Tryd.pinned.checked.prog.funcNamed "pharos/pharoslaw25.RecordReads" = some f) (hfn : Tryd.pinned.checked.prog.funcs[f]? = some fn) :
    false = Tryd.pinned.checked.prog.looks [] ∧ ∀ (j : Nat) t, fn.params[j]? = some t → Tryd.pinned.checked.prog.wantsStandIn t = false := by
  obtain rfl : f = 3 := Option.some.inj ((show Tryd.prog.funcNamed "pharos/pharoslaw25.RecordReads" = some 3 by kernel_rfl).symm.trans hf) |>.symm
  obtain rfl : fn = Tryd.f3 := (Option.some.inj (Tryd.func3.symm.trans hfn)).symm
  refine ⟨by kernel_rfl, fun j t ht => ?_⟩
  rw [Tryd.params3] at ht
  have hm := Array.mem_of_getElem? ht
  have hall : (#[9, 22] : Array TypeId).all (fun t => !Tryd.prog.wantsStandIn t) = true := by kernel_rfl
  have := Array.all_eq_true'.1 hall t hm
  have h2 : Tryd.prog.wantsStandIn t = false := by simpa using this
  exact h2
/-- The card. -/
theorem reads_holds : Rows.RecordReadsCardSaid :=
  Claim7.holds_tied_plain_at .later [] _ _ _ _ reads_said (fun _ h => by cases h) (by kernel_rfl) (fun _ h => by cases h) recordReads_row_tie rfl ⟨rfl, rfl⟩ (by kernel_rfl) rfl reads_plain (by kernel_rfl)
end Go.Proofs.YthbpjjlinebooaaDoor

