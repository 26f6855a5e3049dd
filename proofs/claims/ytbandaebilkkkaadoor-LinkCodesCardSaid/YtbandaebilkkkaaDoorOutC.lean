/- Lemmas for the proofs of this seat: no statement of the seat is claimed here. -/
import Derived.Test.YtbandaebilkkkaaDoorK18
import Derived.Test.YtbandaebilkkkaaDoorPwO
import Derived.Test.YtbandaebilkkkaaDoorCards
import Derived.Test.YtbandaebilkkkaaDoorTie
import Derived.Deep.DeepHandedRow
import Derived.OpenShut
set_option linter.all false
namespace Go.Proofs.YtbandaebilkkkaaDoor
set_option maxRecDepth 20000
open Go Pw Go.ChangeShapes Go.WideShapes Go.ChangeAt Go.RowKit
theorem own : ownKnob Tryd.prog.godebug = none := by kernel_rfl
theorem kin : Kin Tryd.prog (· ∈ [3, 4, 5, 9, 22, 23, 26, 31, 34, 36, 48]) := Kin.of (by kernel_rfl)
theorem c_3 : Tryd.prog.cellsOf 3 = 1 := by kernel_rfl
theorem c_9 : Tryd.prog.cellsOf 9 = 1 := by kernel_rfl
theorem c_22 : Tryd.prog.cellsOf 22 = 1 := by kernel_rfl
theorem c_26 : Tryd.prog.cellsOf 26 = 1 := by kernel_rfl
theorem c_31 : Tryd.prog.cellsOf 31 = 1 := by kernel_rfl
theorem c_34 : Tryd.prog.cellsOf 34 = 5 := by kernel_rfl
theorem c_48 : Tryd.prog.cellsOf 48 = 4 := by kernel_rfl
theorem by36e : Tryd.prog.bytesOf 36 = 96 := by kernel_rfl
theorem by36 : 0 < Tryd.prog.bytesOf 36 := by rw [by36e]; decide
theorem u_nat {a b : Int} (h : 0 ≤ a) (h2 : a ≤ b) : ∃ n : Nat, a = n ∧ (n : Int) ≤ b := ⟨a.toNat, by omega, by omega⟩
theorem len4 {α : Type} : ∀ {l : List α}, l.length = 4 → ∃ a b c d, l = [a, b, c, d]
  | [a, b, c, d], _ => ⟨a, b, c, d, rfl⟩
theorem len9 {α : Type} : ∀ {l : List α}, l.length = 9 → ∃ a b c d e f g i j, l = [a, b, c, d, e, f, g, i, j]
  | [a, b, c, d, e, f, g, i, j], _ => ⟨a, b, c, d, e, f, g, i, j, rfl⟩
def ArB (a : Ar) : Prop := a.op < 65536 ∧ a.f.length ≤ 140737488351232 ∧ a.fa < 4294967296 ∧ a.t.length ≤ 140737488351232 ∧ a.ta < 4294967296
def FrB (f : Fr) : Prop := f.d.length ≤ 140737488351232 ∧ f.s.length ≤ 140737488351232 ∧ f.t < 65536 ∧ f.x.length ≤ 140737488351232
theorem ar_elem {H : Type} {enc : TypeId × Value → H} {W : World} {sp : Nat → Bool} {held : Bool} (n : Nat) (cs : List Value) (x : DataW H × List MemPlace) (h : DataW.trod enc Tryd.prog W 0 sp held n 34 cs = some x) (hl : cs.length = 5) (hw : ∀ y ∈ x.1.weights Tryd.prog 34, y ≤ reachBytes) : ∃ t : Ar, ArB t ∧ cs = arV t := by
  obtain ⟨xs, m, rfl, rfl, _, hxl, hf⟩ := DataW.trod_struct Tryd.underlying34 h
  obtain ⟨c0, c1, c2, c3, c4, rfl⟩ := len5 hl
  obtain ⟨x0, x1, x2, x3, x4, rfl⟩ := len5 hxl
  have h0 := field_of hf 0 22 0 1 rfl rfl rfl c_22
  have h1 := field_of hf 1 9 1 1 rfl rfl rfl c_9
  have h2 := field_of hf 2 26 2 1 rfl rfl rfl c_26
  have h3 := field_of hf 3 9 3 1 rfl rfl rfl c_9
  have h4 := field_of hf 4 26 4 1 rfl rfl rfl c_26
  obtain ⟨n0, e0, l0, u0⟩ := cell_u Tryd.underlying22 h0
  obtain rfl := (List.cons.inj (show [c0] = _ from e0)).1
  rw [IntKind.min_u16] at l0
  rw [IntKind.max_u16] at u0
  obtain ⟨n0, rfl, u0b⟩ := u_nat l0 u0
  obtain ⟨s1, e1, hs1⟩ := cell_str Tryd.underlying9 h1 (fun y hy => hw y (by
    simp only [DataW.weights, Tryd.underlying34]
    exact DataW.weights_mem_each (j := 1) (t := 9) (d := x1.1) rfl rfl y hy))
  obtain rfl := (List.cons.inj (show [c1] = _ from e1)).1
  obtain ⟨n2, e2, l2, u2⟩ := cell_u Tryd.underlying26 h2
  obtain rfl := (List.cons.inj (show [c2] = _ from e2)).1
  rw [IntKind.min_u32] at l2
  rw [IntKind.max_u32] at u2
  obtain ⟨n2, rfl, u2b⟩ := u_nat l2 u2
  obtain ⟨s3, e3, hs3⟩ := cell_str Tryd.underlying9 h3 (fun y hy => hw y (by
    simp only [DataW.weights, Tryd.underlying34]
    exact DataW.weights_mem_each (j := 3) (t := 9) (d := x3.1) rfl rfl y hy))
  obtain rfl := (List.cons.inj (show [c3] = _ from e3)).1
  obtain ⟨n4, e4, l4, u4⟩ := cell_u Tryd.underlying26 h4
  obtain rfl := (List.cons.inj (show [c4] = _ from e4)).1
  rw [IntKind.min_u32] at l4
  rw [IntKind.max_u32] at u4
  obtain ⟨n4, rfl, u4b⟩ := u_nat l4 u4
  exact ⟨⟨n0, s1, n2, s3, n4⟩, ⟨by dsimp only; omega, hs1, by dsimp only; omega, hs3, by dsimp only; omega⟩, rfl⟩
theorem fr_elem {H : Type} {enc : TypeId × Value → H} {W : World} {sp : Nat → Bool} {held : Bool} (n : Nat) (cs : List Value) (x : DataW H × List MemPlace) (h : DataW.trod enc Tryd.prog W 0 sp held n 48 cs = some x) (hl : cs.length = 4) (hw : ∀ y ∈ x.1.weights Tryd.prog 48, y ≤ reachBytes) : ∃ t : Fr, FrB t ∧ cs = frV t := by
  obtain ⟨xs, m, rfl, rfl, _, hxl, hf⟩ := DataW.trod_struct Tryd.underlying48 h
  obtain ⟨c0, c1, c2, c3, rfl⟩ := len4 hl
  obtain ⟨x0, x1, x2, x3, rfl⟩ := len4 hxl
  have h0 := field_of hf 0 9 0 1 rfl rfl rfl c_9
  have h1 := field_of hf 1 9 1 1 rfl rfl rfl c_9
  have h2 := field_of hf 2 22 2 1 rfl rfl rfl c_22
  have h3 := field_of hf 3 9 3 1 rfl rfl rfl c_9
  obtain ⟨s0, e0, hs0⟩ := cell_str Tryd.underlying9 h0 (fun y hy => hw y (by
    simp only [DataW.weights, Tryd.underlying48]
    exact DataW.weights_mem_each (j := 0) (t := 9) (d := x0.1) rfl rfl y hy))
  obtain rfl := (List.cons.inj (show [c0] = _ from e0)).1
  obtain ⟨s1, e1, hs1⟩ := cell_str Tryd.underlying9 h1 (fun y hy => hw y (by
    simp only [DataW.weights, Tryd.underlying48]
    exact DataW.weights_mem_each (j := 1) (t := 9) (d := x1.1) rfl rfl y hy))
  obtain rfl := (List.cons.inj (show [c1] = _ from e1)).1
  obtain ⟨n2, e2, l2, u2⟩ := cell_u Tryd.underlying22 h2
  obtain rfl := (List.cons.inj (show [c2] = _ from e2)).1
  rw [IntKind.min_u16] at l2
  rw [IntKind.max_u16] at u2
  obtain ⟨n2, rfl, u2b⟩ := u_nat l2 u2
  obtain ⟨s3, e3, hs3⟩ := cell_str Tryd.underlying9 h3 (fun y hy => hw y (by
    simp only [DataW.weights, Tryd.underlying48]
    exact DataW.weights_mem_each (j := 3) (t := 9) (d := x3.1) rfl rfl y hy))
  obtain rfl := (List.cons.inj (show [c3] = _ from e3)).1
  exact ⟨⟨s0, s1, n2, s3⟩, ⟨hs0, hs1, by dsimp only; omega, hs3⟩, rfl⟩
theorem step_elem {H : Type} {enc : TypeId × Value → H} {W : World} {sp : Nat → Bool} {held : Bool} (n : Nat) (cs : List Value) (x : DataW H × List MemPlace) (h : DataW.trod enc Tryd.prog W 0 sp held n 36 cs = some x) (hl : cs.length = 9) (hw : ∀ y ∈ x.1.weights Tryd.prog 36, y ≤ reachBytes) : ∃ t : Stp, Stp.ok t ∧ cs = stepV t := by
  obtain ⟨xs, m, rfl, rfl, _, hxl, hf⟩ := DataW.trod_struct Tryd.underlying36 h
  obtain ⟨c0, c1, c2, c3, c4, c5, c6, c7, c8, rfl⟩ := len9 hl
  obtain ⟨x0, x1, x2, x3, x4, rfl⟩ := len5 hxl
  have h0 := field_of hf 0 3 0 1 rfl rfl rfl c_3
  have h1 := field_of hf 1 34 1 5 rfl rfl rfl c_34
  have h2 := field_of hf 2 26 6 1 rfl rfl rfl c_26
  have h3 := field_of hf 3 9 7 1 rfl rfl rfl c_9
  have h4 := field_of hf 4 31 8 1 rfl rfl rfl c_31
  obtain ⟨n0, e0, l0, u0⟩ := cell_u Tryd.underlying3 h0
  obtain rfl := (List.cons.inj (show [c0] = _ from e0)).1
  rw [IntKind.min_i64] at l0
  rw [IntKind.max_i64] at u0
  obtain ⟨s1, hs1, e1⟩ := ar_elem _ _ _ h1 rfl (fun y hy => hw y (by
    simp only [DataW.weights, Tryd.underlying36]
    exact DataW.weights_mem_each (j := 1) (t := 34) (d := x1.1) rfl rfl y hy))
  have e1b : [c1, c2, c3, c4, c5] = arV s1 := e1
  simp only [arV, List.cons.injEq, and_true] at e1b
  obtain ⟨rfl, rfl, rfl, rfl, rfl⟩ := e1b
  obtain ⟨n2, e2, l2, u2⟩ := cell_u Tryd.underlying26 h2
  obtain rfl := (List.cons.inj (show [c6] = _ from e2)).1
  rw [IntKind.min_u32] at l2
  rw [IntKind.max_u32] at u2
  obtain ⟨n2, rfl, u2b⟩ := u_nat l2 u2
  obtain ⟨s3, e3, hs3⟩ := cell_str Tryd.underlying9 h3 (fun y hy => hw y (by
    simp only [DataW.weights, Tryd.underlying36]
    exact DataW.weights_mem_each (j := 3) (t := 9) (d := x3.1) rfl rfl y hy))
  obtain rfl := (List.cons.inj (show [c7] = _ from e3)).1
  obtain ⟨n4, e4, l4, u4⟩ := cell_u Tryd.underlying31 h4
  obtain rfl := (List.cons.inj (show [c8] = _ from e4)).1
  rw [IntKind.min_u64] at l4
  rw [IntKind.max_u64] at u4
  obtain ⟨n4, rfl, u4b⟩ := u_nat l4 u4
  exact ⟨⟨n0, s1, n2, s3, n4⟩, ⟨hs1.1, hs1.2.1, hs1.2.2.1, hs1.2.2.2.1, hs1.2.2.2.2, by dsimp only; omega, hs3, by dsimp only; omega⟩, rfl⟩
theorem ar_in {H : Type} {enc : TypeId × Value → H} {W : World} {b0 : Nat} {v : Value} {d : DataW H} {ps : List MemPlace} (hval : Value.okWide Tryd.prog W .any b0 34 v) (h : DataW.Trod enc Tryd.prog W 0 (fun _ => true) true 34 v d ps) (hwt : ∀ n ∈ d.weights Tryd.prog 34, n ≤ reachBytes) : ∃ t : Ar, ArB t ∧ v = .agg (arV t).toArray := by
  obtain ⟨cs, rfl, hcs⟩ := okWide_struct Tryd.underlying34 hval
  rw [c_34] at hcs
  obtain ⟨fuel, hf⟩ := h
  obtain ⟨a, ha, e⟩ := ar_elem fuel cs.toList (d, ps) hf (by simpa using hcs) hwt
  exact ⟨a, ha, by rw [← e]⟩
theorem fr_in {H : Type} {enc : TypeId × Value → H} {W : World} {b0 : Nat} {v : Value} {d : DataW H} {ps : List MemPlace} (hval : Value.okWide Tryd.prog W .any b0 48 v) (h : DataW.Trod enc Tryd.prog W 0 (fun _ => true) true 48 v d ps) (hwt : ∀ n ∈ d.weights Tryd.prog 48, n ≤ reachBytes) : ∃ t : Fr, FrB t ∧ v = .agg (frV t).toArray := by
  obtain ⟨cs, rfl, hcs⟩ := okWide_struct Tryd.underlying48 hval
  rw [c_48] at hcs
  obtain ⟨fuel, hf⟩ := h
  obtain ⟨a, ha, e⟩ := fr_elem fuel cs.toList (d, ps) hf (by simpa using hcs) hwt
  exact ⟨a, ha, by rw [← e]⟩

theorem script_in {H : Type} {enc : TypeId × Value → H} {W : World} {b0 : Nat} {v : Value} {d : DataW H} {ps : List MemPlace} (hval : Value.okWide Tryd.prog W .any b0 23 v) (h : DataW.Trod enc Tryd.prog W 0 (fun _ => true) true 23 v d ps) (hwt : ∀ n ∈ d.weights Tryd.prog 23, n ≤ reachBytes) : ∃ l : List Stp, Inp W.heap 9 l.length v (l.flatMap stepV) ∧ ∀ t ∈ l, t.ok :=
  inp_of_trod Tryd.underlying23 (show Tryd.prog.cellsOf 36 = 8 + 1 by kernel_rfl) by36 hwt stepV stepV_len Stp.ok step_elem hval h
/-- A world for the witness: the tables as their initialisers lay them. -/
def firstCells : Array Value := (Go.Pinned.utf8FirstZ.map fun (n : Nat) => Value.int .u8 n).toArray
def rangeCells : Array Value := #[.int .u8 128, .int .u8 191, .int .u8 160, .int .u8 191, .int .u8 128, .int .u8 159, .int .u8 144, .int .u8 191, .int .u8 128, .int .u8 143] ++ Array.replicate 22 (.int .u8 0)
def relay (cs : Array Value) : Obj → Obj
  | .cells _ t frozen => .cells cs t frozen
  | o => o
noncomputable def laidWorld (os : Os) : World :=
  { World.holding Tryd.prog os ⟨#[], #[], []⟩ with heap := ((World.holding Tryd.prog os ⟨#[], #[], []⟩).heap.modify 1 (relay firstCells)).modify 2 (relay rangeCells) }
end Go.Proofs.YtbandaebilkkkaaDoor
