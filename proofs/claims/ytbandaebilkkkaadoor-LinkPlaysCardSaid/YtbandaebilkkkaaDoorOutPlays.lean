/- Proved: LinkPlays returns true at every input and leaves its input as it was; the package variables that the row lists hold what the text lays (the card ties them; the tie is given). No condition beside the given form of the statement. -/
import Derived.Test.YtbandaebilkkkaaDoorOutC
set_option linter.all false
namespace Go.Proofs.YtbandaebilkkkaaDoor
set_option maxRecDepth 20000
open Go Pw Go.ChangeShapes Go.WideShapes Go.ChangeAt Go.RowKit
theorem laid_met_plays (os : Os) : laidMet Tryd.prog Rows.linkPlaysRow.laid ((laidWorld os).forCall (fun _ _ => 0) ⟨#[], #[.string ⟨#[]⟩, .int .u32 0, .int .i64 0, .int .u64 0, .slice none 0 0], []⟩).memory :=
  laidMet_of_run' 400 (by kernel_rfl) (by kernel_rfl)
theorem reads_plays (os : Os) {H : Type} (enc : TypeId × Value → H) : ∃ places, DataW.whole enc Tryd.prog ((laidWorld os).forCall (fun _ _ => 0) ⟨#[], #[.string ⟨#[]⟩, .int .u32 0, .int .i64 0, .int .u64 0, .slice none 0 0], []⟩).memory Tryd.f6.params.toList Rows.linkPlaysSpec.vars false #[.string ⟨#[]⟩, .int .u32 0, .int .i64 0, .int .u64 0, .slice none 0 0].toList 8 = some ([.lit (.string []), .lit (.int .u32 0), .lit (.int .i64 0), .lit (.int .u64 0), .nil], [], places) :=
  ⟨[], by kernel_rfl⟩
theorem plays_contract (H : Type) (enc : TypeId × Value → H) (W : World) (base : Nat) (args : Array Value) (ds gs : List (DataW H)) (before : List MemPlace)
    (hval : ∀ (j : Nat) t v, Tryd.f6.params[j]? = some t → args[j]? = some v → Value.okWide Tryd.prog W .any base t v)
    (hW : DataW.Whole enc Tryd.prog Tryd.f6.params.toList Rows.linkPlaysSpec.vars false W args.toList ds gs before)
    (hwt : (DataW.weightsEach Tryd.prog (Tryd.f6.params.toList ++ (OpenSpec.ofChange Rows.linkPlaysSpec).bare.plain.varTypes Tryd.prog) (ds ++ gs)).all (· ≤ reachBytes) = true) :
    Calls Tryd.prog 6 args W fun e W' => ∃ v, e = .returned v ∧ Rows.linkPlaysSpec.post enc Tryd.prog Tryd.f6 false true false false W args v W' := by
  have hW' := hW
  obtain ⟨p, q, hA0, hV, hbef, hfz, hnd⟩ := hW
  have hA : DataW.TrodAll enc Tryd.prog W 0 (fun _ => true) true Tryd.f6.params.toList args.toList ds p := hA0
  have hval2 := hval
  rw [Tryd.params6] at hA hval2
  obtain ⟨v0, vs0, d0, ds0, p0, q0, hargs, rfl, rfl, h0, r0⟩ := trodAll_cons hA
  obtain ⟨v1, vs1, d1, ds1, p1, q1, rfl, rfl, rfl, h1, r1⟩ := trodAll_cons r0
  obtain ⟨v2, vs2, d2, ds2, p2, q2, rfl, rfl, rfl, h2, r2⟩ := trodAll_cons r1
  obtain ⟨v3, vs3, d3, ds3, p3, q3, rfl, rfl, rfl, h3, r3⟩ := trodAll_cons r2
  obtain ⟨v4, vs4, d4, ds4, p4, q4, rfl, rfl, rfl, h4, r4⟩ := trodAll_cons r3
  obtain ⟨rfl, rfl, rfl⟩ := trodAll_nil r4
  obtain rfl : args = #[v0, v1, v2, v3, v4] := by cases args; simp_all
  obtain ⟨rfl, rfl⟩ := trodVars_none hV
  rw [Tryd.params6] at hwt
  have hw : ∀ (j : Nat) (t : TypeId) (d : DataW H), [9, 26, 3, 31, 23][j]? = some t → [d0, d1, d2, d3, d4][j]? = some d → ∀ y ∈ d.weights Tryd.prog t, y ≤ reachBytes := fun j t d h1 h2 y hy => by
    have hj : j < 5 := by
      rcases Nat.lt_or_ge j 5 with h | h
      · exact h
      · rw [List.getElem?_eq_none (by simpa using h)] at h1; cases h1
    have := List.all_eq_true.1 hwt y (DataW.weights_mem_each (j := j) (by rw [List.getElem?_append_left (by simpa using hj)]; exact h1) (by rw [List.getElem?_append_left (by simpa using hj)]; exact h2) y hy)
    simpa using this
  obtain ⟨mac, rfl, hmac⟩ := open_str Tryd.underlying9 (hw 0 9 d0 rfl rfl) (hval2 0 9 v0 rfl rfl) h0
  obtain ⟨addrI, rfl, addrl, addru⟩ := open_int' Tryd.underlying26 (hval2 1 26 v1 rfl rfl) h1
  rw [IntKind.min_u32] at addrl
  rw [IntKind.max_u32] at addru
  obtain ⟨addr, rfl, addrb⟩ := u_nat addrl addru
  obtain ⟨most, rfl, mostl, mostu⟩ := open_int' Tryd.underlying3 (hval2 2 3 v2 rfl rfl) h2
  obtain ⟨lifeI, rfl, lifel, lifeu⟩ := open_int' Tryd.underlying31 (hval2 3 31 v3 rfl rfl) h3
  rw [IntKind.min_u64] at lifel
  rw [IntKind.max_u64] at lifeu
  obtain ⟨life, rfl, lifeb⟩ := u_nat lifel lifeu
  obtain ⟨l, hI, hok⟩ := script_in (hval2 4 23 v4 rfl rfl) h4 (hw 4 23 d4 rfl rfl)
  have fin : ∀ (e : Ending) (w' : World), (∃ v L' , e = .returned v ∧ v = .bool true ∧ L' = [old W.heap] ∧ SL ⟨W.os, W.tape, W.output⟩ L' w') → ∃ v, e = .returned v ∧ Rows.linkPlaysSpec.post enc Tryd.prog Tryd.f6 false true false false W #[str mac, .int .u32 (addr : Nat), .int .i64 most, .int .u64 (life : Nat), v4] v w' := by
    rintro e w' ⟨_, _, rfl, rfl, rfl, hs⟩
    exact ⟨_, rfl, post_of_old (fn := Tryd.f6) (tb := 4) kin (by rw [Tryd.params6]; simp) Tryd.underlying4 (by rfl) rfl hW' rfl rfl rfl hs.1 hs.2.2.1 (old_of_SL hs (.head _ _))⟩
  have hsat : Sat Tryd.prog 6 [str mac, .int .u32 (addr : Nat), .int .i64 most, .int .u64 (life : Nat), v4] [old W.heap] (fun u L' => u = .bool true ∧ L' = [old W.heap]) := by
    by_cases hn : newOk mac addr most life
    · exact plays_new W.heap _ l hI hok mac addr most life hmac (by omega) (by omega) hn
    · exact plays_no W.heap _ l hI hok mac addr most life hmac (by omega) (by omega) hn
  exact calls_of_sat (hsat) (fun v L' w' ⟨hv, hL⟩ hs => fin _ _ ⟨v, L', rfl, hv, hL, hs⟩)

set_option maxRecDepth 100000 in
theorem plays_lifted (os : Os) (started : os.Started) (H : Type) (enc : TypeId × Value → H) (F : Stop.Interp) :
    ReturnsInHanded {} Tryd.checked os 6 .any ((OpenSpec.ofChange Rows.linkPlaysSpec).preRow enc Tryd.prog Tryd.f6 Rows.linkPlaysRow.domain false Rows.linkPlaysRow.laid) (((OpenSpec.ofChange Rows.linkPlaysSpec).at F).post enc Tryd.prog Tryd.f6 false true false false) := by
  obtain ⟨places, hx⟩ := reads_plays os enc
  refine returnsInHanded_of_row (C := Tryd.checked) (s := OpenSpec.ofChange Rows.linkPlaysSpec) own started (by kernel_rfl) Tryd.func6
    (witness_row_at (enc := enc) (C := Tryd.checked) false (laidWorld os) #[.string ⟨#[]⟩, .int .u32 0, .int .i64 0, .int .u64 0, .slice none 0 0] rfl (by kernel_rfl) (by kernel_rfl) (by kernel_rfl)
      (OpenSpec.preRow_of_cond 8 hx (by kernel_rfl) (fun k hk => by cases hk) (by kernel_rfl) (laid_met_plays os))) ?_
  intro W base args ds gs before hval hW _ _ hwt _ _ _
  exact plays_contract H enc W base args ds gs before hval hW hwt
theorem plays_said : Rows.LinkPlaysSaid :=
  OpenClaim.holds_of_cond 6 Tryd.f6 rfl rfl rfl rfl rfl rfl rfl ⟨rfl, rfl, rfl, rfl, rfl⟩ rfl rfl rfl rfl rfl (by kernel_rfl) Tryd.func6 (by kernel_rfl)
    (of_decide_eq_true (by kernel_rfl)) (by unfold Func.isWrapper; first | (rw [if_pos (by decide +kernel)]; kernel_rfl) | (rw [if_neg (by decide +kernel)]; exact ⟨rfl, rfl⟩))
    (fun os started H enc _ F => by rw [OpenClaim.pre_eq_preRow]; exact plays_lifted os started H enc F)
theorem plays_plain (f : FuncId) (fn : Func) (hf : Tryd.pinned.checked.prog.funcNamed "pharos/pharoslaw17.LinkPlays" = some f) (hfn : Tryd.pinned.checked.prog.funcs[f]? = some fn) :
    false = Tryd.pinned.checked.prog.looks [] ∧ ∀ (j : Nat) t, fn.params[j]? = some t → Tryd.pinned.checked.prog.wantsStandIn t = false := by
  obtain rfl : f = 6 := Option.some.inj ((show Tryd.prog.funcNamed "pharos/pharoslaw17.LinkPlays" = some 6 by kernel_rfl).symm.trans hf) |>.symm
  obtain rfl : fn = Tryd.f6 := (Option.some.inj (Tryd.func6.symm.trans hfn)).symm
  refine ⟨by kernel_rfl, fun j t ht => ?_⟩
  rw [Tryd.params6] at ht
  have hm := Array.mem_of_getElem? ht
  have hall : (#[9, 26, 3, 31, 23] : Array TypeId).all (fun t => !Tryd.prog.wantsStandIn t) = true := by kernel_rfl
  have := Array.all_eq_true'.1 hall t hm
  have h2 : Tryd.prog.wantsStandIn t = false := by simpa using this
  exact h2
/-- The card. -/
theorem plays_holds : Rows.LinkPlaysCardSaid :=
  Claim7.holds_tied_plain_at .later [] _ _ _ _ plays_said (fun _ h => by cases h) (by kernel_rfl) (fun _ h => by cases h) linkPlays_row_tie rfl ⟨rfl, rfl⟩ (by kernel_rfl) rfl plays_plain (by kernel_rfl)
end Go.Proofs.YtbandaebilkkkaaDoor
