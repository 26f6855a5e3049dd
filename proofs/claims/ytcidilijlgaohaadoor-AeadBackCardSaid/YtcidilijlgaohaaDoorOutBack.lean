/- Proved: AeadBack returns true at every input and leaves its input as it was; the package variables that the row lists hold what the text lays (the card ties them; the tie is given). No condition beside the given form of the statement. -/
import Derived.Test.YtcidilijlgaohaaDoorKi
import Derived.Test.YtcidilijlgaohaaDoorKo
set_option linter.all false

namespace Go.Proofs.YtcidilijlgaohaaDoor
set_option maxRecDepth 20000
open Go Pw Go.ChangeShapes Go.WideShapes Go.ChangeAt Go.RowKit
theorem laid_met_back (os : Os) : laidMet Tryd.prog Rows.aeadBackRow.laid ((laidWorld os).forCall (fun _ _ => 0) ⟨#[], #[.string ⟨#[]⟩, .string ⟨#[]⟩, .string ⟨#[]⟩, .string ⟨#[]⟩, .int .i64 0, .int .u8 0], []⟩).memory :=
  laidMet_of_run' 400 (by kernel_rfl) (by kernel_rfl)
theorem reads_back (os : Os) {H : Type} (enc : TypeId × Value → H) : ∃ places, DataW.whole enc Tryd.prog ((laidWorld os).forCall (fun _ _ => 0) ⟨#[], #[.string ⟨#[]⟩, .string ⟨#[]⟩, .string ⟨#[]⟩, .string ⟨#[]⟩, .int .i64 0, .int .u8 0], []⟩).memory Tryd.f8.params.toList Rows.aeadBackSpec.vars false #[.string ⟨#[]⟩, .string ⟨#[]⟩, .string ⟨#[]⟩, .string ⟨#[]⟩, .int .i64 0, .int .u8 0].toList 8 = some ([.lit (.string []), .lit (.string []), .lit (.string []), .lit (.string []), .lit (.int .i64 0), .lit (.int .u8 0)], [], places) :=
  ⟨[], by kernel_rfl⟩
theorem back_contract (H : Type) (enc : TypeId × Value → H) (W : World) (base : Nat) (args : Array Value) (ds gs : List (DataW H)) (before : List MemPlace)
    (hval : ∀ (j : Nat) t v, Tryd.f8.params[j]? = some t → args[j]? = some v → Value.okWide Tryd.prog W .any base t v)
    (hW : DataW.Whole enc Tryd.prog Tryd.f8.params.toList Rows.aeadBackSpec.vars false W args.toList ds gs before)
    (hwt : (DataW.weightsEach Tryd.prog (Tryd.f8.params.toList ++ (OpenSpec.ofChange Rows.aeadBackSpec).bare.plain.varTypes Tryd.prog) (ds ++ gs)).all (· ≤ reachBytes) = true)
    (hla : laidMetH Tryd.prog Rows.aeadBackRow.laid W) (hsh : W.ShapedOpen Tryd.prog) :
    Calls Tryd.prog 8 args W fun e W' => ∃ v, e = .returned v ∧ Rows.aeadBackSpec.post enc Tryd.prog Tryd.f8 false true false false W args v W' := by
  have hW' := hW
  obtain ⟨p, q, hA0, hV, hbef, hfz, hnd⟩ := hW
  have hA : DataW.TrodAll enc Tryd.prog W 0 (fun _ => true) true Tryd.f8.params.toList args.toList ds p := hA0
  have hval2 := hval
  rw [Tryd.params8] at hA hval2
  obtain ⟨v0, vs0, d0, ds0, p0, q0, hargs, rfl, rfl, h0, r0⟩ := trodAll_cons hA
  obtain ⟨v1, vs1, d1, ds1, p1, q1, rfl, rfl, rfl, h1, r1⟩ := trodAll_cons r0
  obtain ⟨v2, vs2, d2, ds2, p2, q2, rfl, rfl, rfl, h2, r2⟩ := trodAll_cons r1
  obtain ⟨v3, vs3, d3, ds3, p3, q3, rfl, rfl, rfl, h3, r3⟩ := trodAll_cons r2
  obtain ⟨v4, vs4, d4, ds4, p4, q4, rfl, rfl, rfl, h4, r4⟩ := trodAll_cons r3
  obtain ⟨v5, vs5, d5, ds5, p5, q5, rfl, rfl, rfl, h5, r5⟩ := trodAll_cons r4
  obtain ⟨rfl, rfl, rfl⟩ := trodAll_nil r5
  obtain rfl : args = #[v0, v1, v2, v3, v4, v5] := by cases args; simp_all
  obtain ⟨rfl, rfl⟩ := trodVars_none hV
  rw [Tryd.params8] at hwt
  have hw : ∀ (j : Nat) (t : TypeId) (d : DataW H), [9, 9, 9, 9, 3, 5][j]? = some t → [d0, d1, d2, d3, d4, d5][j]? = some d → ∀ y ∈ d.weights Tryd.prog t, y ≤ reachBytes := fun j t d h1 h2 y hy => by
    have hj : j < 6 := by
      rcases Nat.lt_or_ge j 6 with h | h
      · exact h
      · rw [List.getElem?_eq_none (by simpa using h)] at h1; cases h1
    have := List.all_eq_true.1 hwt y (DataW.weights_mem_each (j := j) (by rw [List.getElem?_append_left (by simpa using hj)]; exact h1) (by rw [List.getElem?_append_left (by simpa using hj)]; exact h2) y hy)
    simpa using this
  obtain ⟨key, rfl, hkey⟩ := open_str Tryd.underlying9 (hw 0 9 d0 rfl rfl) (hval2 0 9 v0 rfl rfl) h0
  obtain ⟨nonce, rfl, hnonce⟩ := open_str Tryd.underlying9 (hw 1 9 d1 rfl rfl) (hval2 1 9 v1 rfl rfl) h1
  obtain ⟨ad, rfl, had⟩ := open_str Tryd.underlying9 (hw 2 9 d2 rfl rfl) (hval2 2 9 v2 rfl rfl) h2
  obtain ⟨s, rfl, hs⟩ := open_str Tryd.underlying9 (hw 3 9 d3 rfl rfl) (hval2 3 9 v3 rfl rfl) h3
  obtain ⟨at_, rfl, at_l, at_u⟩ := open_int' Tryd.underlying3 (hval2 4 3 v4 rfl rfl) h4
  obtain ⟨by_I, rfl, by_l, by_u⟩ := open_int' Tryd.underlying5 (hval2 5 5 v5 rfl rfl) h5
  rw [IntKind.min_u8] at by_l
  rw [IntKind.max_u8] at by_u
  obtain ⟨by_, rfl, by_b⟩ := u_nat by_l by_u
  refine calls_of_satq (args := [str key, str nonce, str ad, str s, .int .i64 at_, .int .u8 by_]) (quA_at (nm := "") rfl hla hsh) (back_spec key nonce ad s at_ by_ hkey hnonce had hs (by omega)) fun w' hold hos hout => ?_
  exact ⟨_, rfl, post_of_old (fn := Tryd.f8) (tb := 4) kin (by rw [Tryd.params8]; simp) Tryd.underlying4 (by rfl) rfl hW' rfl rfl rfl hos hout hold⟩
set_option maxRecDepth 100000 in
theorem back_lifted (os : Os) (started : os.Started) (H : Type) (enc : TypeId × Value → H) (F : Stop.Interp) :
    ReturnsInHanded {} Tryd.checked os 8 .any ((OpenSpec.ofChange Rows.aeadBackSpec).preRow enc Tryd.prog Tryd.f8 Rows.aeadBackRow.domain false Rows.aeadBackRow.laid) (((OpenSpec.ofChange Rows.aeadBackSpec).at F).post enc Tryd.prog Tryd.f8 false true false false) := by
  obtain ⟨places, hx⟩ := reads_back os enc
  refine returnsInHanded_of_row (C := Tryd.checked) (s := OpenSpec.ofChange Rows.aeadBackSpec) own started (by kernel_rfl) Tryd.func8
    (witness_row_at (enc := enc) (C := Tryd.checked) false (laidWorld os) #[.string ⟨#[]⟩, .string ⟨#[]⟩, .string ⟨#[]⟩, .string ⟨#[]⟩, .int .i64 0, .int .u8 0] rfl (by kernel_rfl) (by kernel_rfl) (by kernel_rfl)
      (OpenSpec.preRow_of_cond 8 hx (by kernel_rfl) (fun k hk => by cases hk) (by kernel_rfl) (laid_met_back os))) ?_
  intro W base args ds gs before hval hW _ _ hwt hla hsh _
  exact back_contract H enc W base args ds gs before hval hW hwt hla hsh
theorem back_said : Rows.AeadBackSaid :=
  OpenClaim.holds_of_cond 8 Tryd.f8 rfl rfl rfl rfl rfl rfl rfl ⟨rfl, rfl, rfl, rfl, rfl⟩ rfl rfl rfl rfl rfl (by kernel_rfl) Tryd.func8 (by kernel_rfl)
    (of_decide_eq_true (by kernel_rfl)) (by unfold Func.isWrapper; first | (rw [if_pos (by decide +kernel)]; kernel_rfl) | (rw [if_neg (by decide +kernel)]; exact ⟨rfl, rfl⟩))
    (fun os started H enc _ F => by rw [OpenClaim.pre_eq_preRow]; exact back_lifted os started H enc F)
theorem back_plain (f : FuncId) (fn : Func) (hf : Tryd.pinned.checked.prog.funcNamed "pharos/pharoslaw13.AeadBack" = some f) (hfn : Tryd.pinned.checked.prog.funcs[f]? = some fn) :
    false = Tryd.pinned.checked.prog.looks [] ∧ ∀ (j : Nat) t, fn.params[j]? = some t → Tryd.pinned.checked.prog.wantsStandIn t = false := by
  obtain rfl : f = 8 := Option.some.inj ((show Tryd.prog.funcNamed "pharos/pharoslaw13.AeadBack" = some 8 by kernel_rfl).symm.trans hf) |>.symm
  obtain rfl : fn = Tryd.f8 := (Option.some.inj (Tryd.func8.symm.trans hfn)).symm
  refine ⟨by kernel_rfl, fun j t ht => ?_⟩
  rw [Tryd.params8] at ht
  have hm := Array.mem_of_getElem? ht
  have hall : (#[9, 9, 9, 9, 3, 5] : Array TypeId).all (fun t => !Tryd.prog.wantsStandIn t) = true := by kernel_rfl
  have := Array.all_eq_true'.1 hall t hm
  have h2 : Tryd.prog.wantsStandIn t = false := by simpa using this
  exact h2
/-- The card. -/
theorem back_holds : Rows.AeadBackCardSaid :=
  Claim7.holds_tied_plain_at .later [] _ _ _ _ back_said (fun _ h => by cases h) (by kernel_rfl) (fun _ h => by cases h) aeadBack_row_tie rfl ⟨rfl, rfl⟩ (by kernel_rfl) rfl back_plain (by kernel_rfl)
end Go.Proofs.YtcidilijlgaohaaDoor

