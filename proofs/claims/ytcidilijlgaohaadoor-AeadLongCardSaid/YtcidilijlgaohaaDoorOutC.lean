/- Lemmas for the proofs of this seat: no statement of the seat is claimed here. -/
import Derived.Test.YtcidilijlgaohaaDoorA7
import Derived.Test.YtcidilijlgaohaaDoorPwO
import Derived.Test.YtcidilijlgaohaaDoorCards
import Derived.Test.YtcidilijlgaohaaDoorTie
import Derived.Deep.DeepHandedRow
import Derived.OpenShut
import Derived.Laws.IdiomArrays
set_option linter.all false
namespace Go.Proofs.YtcidilijlgaohaaDoor
set_option maxRecDepth 20000
open Go Pw Go.ChangeShapes Go.WideShapes Go.ChangeAt Go.RowKit
theorem own : ownKnob Tryd.prog.godebug = none := by kernel_rfl
theorem kin : Kin Tryd.prog (· ∈ [3, 4, 5, 9, 22, 40]) := Kin.of (by kernel_rfl)
theorem c_5 : Tryd.prog.cellsOf 5 = 1 := by kernel_rfl
theorem c_72 : Tryd.prog.cellsOf 72 = 4 := by kernel_rfl
theorem c_73 : Tryd.prog.cellsOf 73 = 32 := by kernel_rfl
theorem u_nat {a b : Int} (h : 0 ≤ a) (h2 : a ≤ b) : ∃ n : Nat, a = n ∧ (n : Int) ≤ b := ⟨a.toNat, by omega, by omega⟩
theorem len8 {α : Type} : ∀ {l : List α}, l.length = 8 → ∃ a b c d e f g i, l = [a, b, c, d, e, f, g, i]
  | [a, b, c, d, e, f, g, i], _ => ⟨a, b, c, d, e, f, g, i, rfl⟩
theorem cut4 {α : Type} {l : List α} {n : Nat} (h : l.length = n + 4) : ∃ a b c d r, l = a :: b :: c :: d :: r ∧ r.length = n := by
  match l, h with
  | a :: b :: c :: d :: r, h => exact ⟨a, b, c, d, r, rfl, by simpa using h⟩
/-- The table as the statement lays it is the table of the walk. -/
theorem q_elem {W : World} {fuel : Nat} {c0 c1 c2 c3 : Value} {x : DataW Unit × List MemPlace} {a b c d : Int} (h : DataW.trod (fun _ => ()) Tryd.prog W 0 (fun _ => true) false fuel 72 [c0, c1, c2, c3] = some x) (hx : x.1 = .agg [.lit (.int .u8 a), .lit (.int .u8 b), .lit (.int .u8 c), .lit (.int .u8 d)]) : [c0, c1, c2, c3] = [.int .u8 a, .int .u8 b, .int .u8 c, .int .u8 d] := by
  obtain ⟨y0, y1, y2, y3, n, rfl, h0, h1, h2, h3⟩ := trod_array4 Tryd.underlying72 c_5 h
  obtain ⟨n0, e0, rfl, _⟩ := DataW.trod_int Tryd.underlying5 h0
  obtain ⟨n1, e1, rfl, _⟩ := DataW.trod_int Tryd.underlying5 h1
  obtain ⟨n2, e2, rfl, _⟩ := DataW.trod_int Tryd.underlying5 h2
  obtain ⟨n3, e3, rfl, _⟩ := DataW.trod_int Tryd.underlying5 h3
  simp only [DataW.agg.injEq, List.cons.injEq, DataW.lit.injEq, Lit.int.injEq, true_and, and_true] at hx
  obtain ⟨rfl, rfl, rfl, rfl⟩ := hx
  obtain rfl := (List.cons.inj e0).1
  obtain rfl := (List.cons.inj e1).1
  obtain rfl := (List.cons.inj e2).1
  obtain rfl := (List.cons.inj e3).1
  rfl
theorem quarters_in {W : World} {fuel : Nat} {cs : List Value} {p : List MemPlace} (h : DataW.trod (fun _ => ()) Tryd.prog W 0 (fun _ => true) false fuel 73 cs = some (Rows.laid_pharos_aead_quarters, p)) : cs = qsE.flatMap qf := by
  obtain ⟨xs, m, _, hx, hl, hxl, hf⟩ := DataW.trod_array Tryd.underlying73 h
  rw [c_73] at hl
  rw [c_72] at hf
  obtain ⟨c0, c1, c2, c3, r0, rfl, hl0⟩ := cut4 (n := 28) hl
  obtain ⟨c4, c5, c6, c7, r1, rfl, hl1⟩ := cut4 (n := 24) hl0
  obtain ⟨c8, c9, c10, c11, r2, rfl, hl2⟩ := cut4 (n := 20) hl1
  obtain ⟨c12, c13, c14, c15, r3, rfl, hl3⟩ := cut4 (n := 16) hl2
  obtain ⟨c16, c17, c18, c19, r4, rfl, hl4⟩ := cut4 (n := 12) hl3
  obtain ⟨c20, c21, c22, c23, r5, rfl, hl5⟩ := cut4 (n := 8) hl4
  obtain ⟨c24, c25, c26, c27, r6, rfl, hl6⟩ := cut4 (n := 4) hl5
  obtain ⟨c28, c29, c30, c31, r7, rfl, hl7⟩ := cut4 (n := 0) hl6
  obtain rfl := List.eq_nil_of_length_eq_zero hl7
  obtain ⟨x0, x1, x2, x3, x4, x5, x6, x7, rfl⟩ := len8 hxl
  have hx1 := congrArg Prod.fst hx
  simp only [Rows.laid_pharos_aead_quarters, List.map_cons, List.map_nil, DataW.agg.injEq, List.cons.injEq, and_true] at hx1
  obtain ⟨g0, g1, g2, g3, g4, g5, g6, g7⟩ := hx1
  have e0 := q_elem (c0 := c0) (c1 := c1) (c2 := c2) (c3 := c3) (x := x0) (hf 0 (by decide)) g0.symm
  have e1 := q_elem (c0 := c4) (c1 := c5) (c2 := c6) (c3 := c7) (x := x1) (hf 1 (by decide)) g1.symm
  have e2 := q_elem (c0 := c8) (c1 := c9) (c2 := c10) (c3 := c11) (x := x2) (hf 2 (by decide)) g2.symm
  have e3 := q_elem (c0 := c12) (c1 := c13) (c2 := c14) (c3 := c15) (x := x3) (hf 3 (by decide)) g3.symm
  have e4 := q_elem (c0 := c16) (c1 := c17) (c2 := c18) (c3 := c19) (x := x4) (hf 4 (by decide)) g4.symm
  have e5 := q_elem (c0 := c20) (c1 := c21) (c2 := c22) (c3 := c23) (x := x5) (hf 5 (by decide)) g5.symm
  have e6 := q_elem (c0 := c24) (c1 := c25) (c2 := c26) (c3 := c27) (x := x6) (hf 6 (by decide)) g6.symm
  have e7 := q_elem (c0 := c28) (c1 := c29) (c2 := c30) (c3 := c31) (x := x7) (hf 7 (by decide)) g7.symm
  simp only [List.cons.injEq, and_true] at e0 e1 e2 e3 e4 e5 e6 e7
  obtain ⟨rfl, rfl, rfl, rfl⟩ := e0
  obtain ⟨rfl, rfl, rfl, rfl⟩ := e1
  obtain ⟨rfl, rfl, rfl, rfl⟩ := e2
  obtain ⟨rfl, rfl, rfl, rfl⟩ := e3
  obtain ⟨rfl, rfl, rfl, rfl⟩ := e4
  obtain ⟨rfl, rfl, rfl, rfl⟩ := e5
  obtain ⟨rfl, rfl, rfl, rfl⟩ := e6
  obtain ⟨rfl, rfl, rfl, rfl⟩ := e7
  rfl
/-- What is not block 0 is as it was. -/
def oldX (h : Array Obj) : Assn := fun f => ∀ b o, b ≠ 0 → h[b]? = some o → f b = some o
theorem quA_at {W : World} {nm : String} {laid : List (String × DataW Unit)} (hla : laid = [("pharos/aead.quarters", Rows.laid_pharos_aead_quarters)]) (hl : laidMetH Tryd.prog laid W) (hs : W.ShapedOpen Tryd.prog) : W.heap[0]? = some (.cells (qsE.flatMap qf).toArray 73 (0, 0)) := by
  subst hla
  obtain ⟨cs, h1, h2, _⟩ := hs.1 0 (Array.replicate 32 (.int .u8 0)) 73 (by decide +kernel) (by kernel_rfl)
  have hl' : laidMet Tryd.prog [("pharos/aead.quarters", Rows.laid_pharos_aead_quarters)] W := hl
  obtain ⟨ps, ⟨g, t, cs', fuel, p, q, hg, ht, hv, htr, _, _⟩, _⟩ := hl'
  obtain rfl : g = 0 := (Option.some.inj ((show Tryd.prog.globalNamed "pharos/aead.quarters" = some 0 by kernel_rfl).symm.trans hg)).symm
  obtain rfl : t = 73 := (Option.some.inj ((show (Tryd.prog.globals[0]?).map (·.type) = some 73 by kernel_rfl).symm.trans ht)).symm
  have hq := quarters_in htr
  have hcs : cs' = cs := by
    unfold World.var? at hv
    rw [hg] at hv
    simp [h1] at hv
    exact hv.symm
  subst hcs
  rw [h1, ← hq]
theorem calls_of_satq {f : FuncId} {args : List Value} {W : World} {K : Ending → World → Prop} (h0 : W.heap[0]? = some (.cells (qsE.flatMap qf).toArray 73 (0, 0))) (h : Sat Tryd.prog f args [quA] (fun u L' => u = .bool true ∧ L' = [quA]))
    (fin : ∀ w' : World, (∀ (b : Nat) o, W.heap[b]? = some o → w'.heap[b]? = some o) → w'.os = W.os → w'.output = W.output → K (.returned (.bool true)) w') : Calls Tryd.prog f args.toArray W K := by
  have hi : SL ⟨W.os, W.tape, W.output⟩ ([quA] ++ [oldX W.heap]) W := by
    refine ⟨rfl, rfl, rfl, fun b => if b = 0 then W.heap[0]? else none, fun b => if b = 0 then none else W.heap[b]?, ?_, ?_, ?_, ?_, fun b => if b = 0 then none else W.heap[b]?, fun _ => none, fun _ => .inr rfl, fun _ _ h => h, fun _ _ h => (by cases h), ?_, trivial⟩
    · intro b; by_cases hb : b = 0 <;> simp [hb]
    · intro b o hb; by_cases e : b = 0 <;> simp [e] at hb ⊢; exact hb
    · intro b o hb; by_cases e : b = 0 <;> simp [e] at hb ⊢; exact hb
    · show (if (0 : Nat) = 0 then W.heap[0]? else none) = _
      simpa using h0
    · intro b o hb ho; simp [hb, ho]
  refine Calls.mono ((h ⟨W.os, W.tape, W.output⟩ [oldX W.heap] W hi).calls (fun _ d hd => by cases hd)) ?_
  rintro e w' ⟨v, L', rfl, ⟨rfl, rfl⟩, hw⟩
  refine fin w' (fun b o hb => ?_) hw.1 hw.2.2.1
  by_cases e : b = 0
  · subst e
    have h2 := hw.heap (.head _ _)
    rw [h2, ← h0]; exact hb
  · obtain ⟨f1, h1, h2⟩ := SLh.mem (.tail (.head _ _)) hw.2.2.2
    exact h2 b o (h1 b o e hb)
/-- A world for the witness: the table as its initialiser lays it. -/
def relay (cs : Array Value) : Obj → Obj
  | .cells _ t frozen => .cells cs t frozen
  | o => o
noncomputable def laidWorld (os : Os) : World :=
  { World.holding Tryd.prog os ⟨#[], #[], []⟩ with heap := (World.holding Tryd.prog os ⟨#[], #[], []⟩).heap.modify 0 (relay (qsE.flatMap qf).toArray) }
end Go.Proofs.YtcidilijlgaohaaDoor
