/- Proved: RecordSeals returns true at every input and leaves its input as it was; the package variables that the row lists hold what the text lays (the card ties them; the tie is given). No condition beside the given form of the statement. -/
import Derived.Test.YthbpjjlinebooaaDoorKi
import Derived.Test.YthbpjjlinebooaaDoorRq
set_option linter.all false

namespace Go.Proofs.YthbpjjlinebooaaDoor
set_option maxRecDepth 20000
open Go Pw Go.ChangeShapes Go.WideShapes Go.ChangeAt Go.RowKit
theorem laid_met_seals (os : Os) : laidMet Tryd.prog Rows.recordSealsRow.laid ((laidWorld os).forCall (fun _ _ => 0) ⟨#[], #[.agg #[.string ⟨#[]⟩, .string ⟨#[]⟩], .int .u64 0, .slice none 0 0], []⟩).memory :=
  laidMet_of_run' 900 (by kernel_rfl) (by kernel_rfl)
theorem reads_seals (os : Os) {H : Type} (enc : TypeId × Value → H) : ∃ places, DataW.whole enc Tryd.prog ((laidWorld os).forCall (fun _ _ => 0) ⟨#[], #[.agg #[.string ⟨#[]⟩, .string ⟨#[]⟩], .int .u64 0, .slice none 0 0], []⟩).memory Tryd.f5.params.toList Rows.recordSealsSpec.vars false #[.agg #[.string ⟨#[]⟩, .string ⟨#[]⟩], .int .u64 0, .slice none 0 0].toList 8 = some ([.agg [.lit (.string []), .lit (.string [])], .lit (.int .u64 0), .nil], [], places) :=
  ⟨[], by kernel_rfl⟩
theorem seals_contract (H : Type) (enc : TypeId × Value → H) (W : World) (base : Nat) (args : Array Value) (ds gs : List (DataW H)) (before : List MemPlace)
    (hval : ∀ (j : Nat) t v, Tryd.f5.params[j]? = some t → args[j]? = some v → Value.okWide Tryd.prog W .any base t v)
    (hW : DataW.Whole enc Tryd.prog Tryd.f5.params.toList Rows.recordSealsSpec.vars false W args.toList ds gs before)
    (hwt : (DataW.weightsEach Tryd.prog (Tryd.f5.params.toList ++ (OpenSpec.ofChange Rows.recordSealsSpec).bare.plain.varTypes Tryd.prog) (ds ++ gs)).all (· ≤ reachBytes) = true)
    (hla : laidMetH Tryd.prog Rows.recordSealsRow.laid W) (hsh : W.ShapedOpen Tryd.prog) :
    Calls Tryd.prog 5 args W fun e W' => ∃ v, e = .returned v ∧ Rows.recordSealsSpec.post enc Tryd.prog Tryd.f5 false true false false W args v W' := by
  have hW' := hW
  obtain ⟨p, q, hA0, hV, hbef, hfz, hnd⟩ := hW
  have hA : DataW.TrodAll enc Tryd.prog W 0 (fun _ => true) true Tryd.f5.params.toList args.toList ds p := hA0
  have hval2 := hval
  rw [Tryd.params5] at hA hval2
  obtain ⟨v0, vs0, d0, ds0, p0, q0, hargs, rfl, rfl, h0, r0⟩ := trodAll_cons hA
  obtain ⟨v1, vs1, d1, ds1, p1, q1, rfl, rfl, rfl, h1, r1⟩ := trodAll_cons r0
  obtain ⟨v2, vs2, d2, ds2, p2, q2, rfl, rfl, rfl, h2, r2⟩ := trodAll_cons r1
  obtain ⟨rfl, rfl, rfl⟩ := trodAll_nil r2
  obtain rfl : args = #[v0, v1, v2] := by cases args; simp_all
  obtain ⟨rfl, rfl⟩ := trodVars_none hV
  rw [Tryd.params5] at hwt
  have hw : ∀ (j : Nat) (t : TypeId) (d : DataW H), [47, 48, 49][j]? = some t → [d0, d1, d2][j]? = some d → ∀ y ∈ d.weights Tryd.prog t, y ≤ reachBytes := fun j t d h1 h2 y hy => by
    have hj : j < 3 := by
      rcases Nat.lt_or_ge j 3 with h | h
      · exact h
      · rw [List.getElem?_eq_none (by simpa using h)] at h1; cases h1
    have := List.all_eq_true.1 hwt y (DataW.weights_mem_each (j := j) (by rw [List.getElem?_append_left (by simpa using hj)]; exact h1) (by rw [List.getElem?_append_left (by simpa using hj)]; exact h2) y hy)
    simpa using this
  obtain ⟨tf, ⟨tf1, tf2⟩, rfl⟩ := tf_in (hval2 0 47 v0 rfl rfl) h0 (hw 0 47 d0 rfl rfl)
  obtain ⟨key, iv⟩ := tf
  dsimp only at tf1 tf2
  obtain ⟨mo_I, rfl, mo_l, mo_u⟩ := open_int' Tryd.underlying48 (hval2 1 48 v1 rfl rfl) h1
  rw [IntKind.min_u64] at mo_l
  rw [IntKind.max_u64] at mo_u
  obtain ⟨mo_, rfl, mo_b⟩ := u_nat mo_l mo_u
  obtain ⟨ls, a2, k2, rfl, hI2, hok2⟩ := sts_in (hval2 2 49 v2 rfl rfl) h2 (hw 2 49 d2 rfl rfl)
  refine calls_of_satx (args := [.agg (tfV (key, iv)).toArray, .int .u64 mo_, .slice a2 ls.length k2]) (quA_at rfl hla hsh) (seals_spec key iv mo_ (by omega) (by omega) (by omega) ls W.heap a2 k2 (hI0 := ⟨hI2, quA_at rfl hla hsh⟩) (fun j => by have h9 := gt_all hok2 (by refine ⟨by decide, by decide, by decide, by decide, by decide⟩) j; exact ⟨h9.1, by have := h9.2.1; omega, h9.2.2.1, h9.2.2.2.1, h9.2.2.2.2⟩) (by have := hI2.2.1; omega)) fun w' hold hos hout => ?_
  exact ⟨_, rfl, post_of_old (fn := Tryd.f5) (tb := 4) kin (by rw [Tryd.params5]; simp) Tryd.underlying4 (by rfl) rfl hW' rfl rfl rfl hos hout hold⟩
set_option maxRecDepth 100000 in
theorem seals_lifted (os : Os) (started : os.Started) (H : Type) (enc : TypeId × Value → H) (F : Stop.Interp) :
    ReturnsInHanded {} Tryd.checked os 5 .any ((OpenSpec.ofChange Rows.recordSealsSpec).preRow enc Tryd.prog Tryd.f5 Rows.recordSealsRow.domain false Rows.recordSealsRow.laid) (((OpenSpec.ofChange Rows.recordSealsSpec).at F).post enc Tryd.prog Tryd.f5 false true false false) := by
  obtain ⟨places, hx⟩ := reads_seals os enc
  refine returnsInHanded_of_row (C := Tryd.checked) (s := OpenSpec.ofChange Rows.recordSealsSpec) own started (by kernel_rfl) Tryd.func5
    (witness_row_at (enc := enc) (C := Tryd.checked) false (laidWorld os) #[.agg #[.string ⟨#[]⟩, .string ⟨#[]⟩], .int .u64 0, .slice none 0 0] rfl (by kernel_rfl) (by kernel_rfl) (by kernel_rfl)
      (OpenSpec.preRow_of_cond 8 hx (by kernel_rfl) (fun k hk => by cases hk) (by kernel_rfl) (laid_met_seals os))) ?_
  intro W base args ds gs before hval hW _ _ hwt hla hsh _
  exact seals_contract H enc W base args ds gs before hval hW hwt hla hsh
theorem seals_said : Rows.RecordSealsSaid :=
  OpenClaim.holds_of_cond 5 Tryd.f5 rfl rfl rfl rfl rfl rfl rfl ⟨rfl, rfl, rfl, rfl, rfl⟩ rfl rfl rfl rfl rfl (by kernel_rfl) Tryd.func5 (by kernel_rfl)
    (of_decide_eq_true (by kernel_rfl)) (by unfold Func.isWrapper; first | (rw [if_pos (by decide +kernel)]; kernel_rfl) | (rw [if_neg (by decide +kernel)]; exact ⟨rfl, rfl⟩))
    (fun os started H enc _ F => by rw [OpenClaim.pre_eq_preRow]; exact seals_lifted os started H enc F)
theorem seals_plain (f : FuncId) (fn : Func) (hf : Tryd.pinned.checked.prog.funcNamed "pharos/pharoslaw25.RecordSeals" = some f) (hfn : Tryd.pinned.checked.prog.funcs[f]? = some fn) :
    false = Tryd.pinned.checked.prog.looks [] ∧ ∀ (j : Nat) t, fn.params[j]? = some t → Tryd.pinned.checked.prog.wantsStandIn t = false := by
  obtain rfl : f = 5 := Option.some.inj ((show Tryd.prog.funcNamed "pharos/pharoslaw25.RecordSeals" = some 5 by kernel_rfl).symm.trans hf) |>.symm
  obtain rfl : fn = Tryd.f5 := (Option.some.inj (Tryd.func5.symm.trans hfn)).symm
  refine ⟨by kernel_rfl, fun j t ht => ?_⟩
  rw [Tryd.params5] at ht
  have hm := Array.mem_of_getElem? ht
  have hall : (#[47, 48, 49] : Array TypeId).all (fun t => !Tryd.prog.wantsStandIn t) = true := by kernel_rfl
  have := Array.all_eq_true'.1 hall t hm
  have h2 : Tryd.prog.wantsStandIn t = false := by simpa using this
  exact h2
/-- The card. -/
theorem seals_holds : Rows.RecordSealsCardSaid :=
  Claim7.holds_tied_plain_at .later [] _ _ _ _ seals_said (fun _ h => by cases h) (by kernel_rfl) (fun _ h => by cases h) recordSeals_row_tie rfl ⟨rfl, rfl⟩ (by kernel_rfl) rfl seals_plain (by kernel_rfl)
end Go.Proofs.YthbpjjlinebooaaDoor

