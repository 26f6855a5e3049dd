/- Lemmas for the proofs of this seat: no statement of the seat is claimed here. -/
import Derived.Test.YtpidkdkbgjnhlaaW19
import Derived.Test.YtpidkdkbgjnhlaaPwO
import Derived.Test.YtpidkdkbgjnhlaaRows
set_option linter.all false
namespace Go.Proofs.Ytpidkdkbgjnhlaa
set_option maxRecDepth 20000
open Go Pw Go.ChangeShapes Go.WideShapes Go.ChangeAt Go.RowKit
theorem own : ownKnob Try.prog.godebug = none := by kernel_rfl
theorem kin : Kin Try.prog (· ∈ [3, 4, 5, 9, 22, 23, 30, 31, 33]) := Kin.of (by kernel_rfl)
theorem c3 : Try.prog.cellsOf 3 = 1 := by kernel_rfl
theorem c30 : Try.prog.cellsOf 30 = 1 := by kernel_rfl
theorem c31 : Try.prog.cellsOf 31 = 1 := by kernel_rfl
theorem c9 : Try.prog.cellsOf 9 = 1 := by kernel_rfl
theorem by33e : Try.prog.bytesOf 33 = 48 := by kernel_rfl
theorem by33 : 0 < Try.prog.bytesOf 33 := by rw [by33e]; decide
theorem step_elem {H : Type} {enc : TypeId × Value → H} {W : World} {sp : Nat → Bool} {held : Bool} (n : Nat) (cs : List Value) (x : DataW H × List MemPlace) (h : DataW.trod enc Try.prog W 0 sp held n 33 cs = some x) (hl : cs.length = 5) (hw : ∀ y ∈ x.1.weights Try.prog 33, y ≤ reachBytes) : ∃ t : Stp, t.ok ∧ cs = stepV t := by
  obtain ⟨xs, m, rfl, rfl, _, hxl, hf⟩ := DataW.trod_struct Try.underlying33 h
  obtain ⟨a, b, c, d, e, rfl⟩ := len5 hl
  obtain ⟨x0, x1, x2, x3, x4, rfl⟩ := len5 hxl
  have h0 := field_of hf 0 3 0 1 rfl rfl rfl c3
  have h1 := field_of hf 1 30 1 1 rfl rfl rfl c30
  have h2 := field_of hf 2 3 2 1 rfl rfl rfl c3
  have h3 := field_of hf 3 31 3 1 rfl rfl rfl c31
  have h4 := field_of hf 4 9 4 1 rfl rfl rfl c9
  obtain ⟨n0, e0, _, _⟩ := cell_u Try.underlying3 h0
  obtain ⟨n1, e1, l1, u1⟩ := cell_u Try.underlying30 h1
  obtain ⟨n2, e2, l2, u2⟩ := cell_u Try.underlying3 h2
  obtain ⟨n3, e3, l3, u3⟩ := cell_u Try.underlying31 h3
  obtain ⟨s, e4, hs⟩ := cell_str Try.underlying9 h4 (fun y hy => hw y (by
    simp only [DataW.weights, Try.underlying33]
    exact DataW.weights_mem_each (j := 4) (t := 9) (d := x4.1) rfl rfl y hy))
  obtain rfl := (List.cons.inj (show [a] = _ from e0)).1
  obtain rfl := (List.cons.inj (show [b] = _ from e1)).1
  obtain rfl := (List.cons.inj (show [c] = _ from e2)).1
  obtain rfl := (List.cons.inj (show [d] = _ from e3)).1
  obtain rfl := (List.cons.inj (show [e] = _ from e4)).1
  rw [IntKind.min_u32] at l1
  rw [IntKind.max_u32] at u1
  rw [IntKind.min_i64] at l2
  rw [IntKind.max_i64] at u2
  rw [IntKind.min_u64] at l3
  rw [IntKind.max_u64] at u3
  refine ⟨⟨n0, n1.toNat, n2, n3.toNat, s⟩, ⟨by dsimp only; omega, l2, by dsimp only; omega, by dsimp only; omega, hs⟩, ?_⟩
  unfold stepV
  dsimp only
  rw [Int.toNat_of_nonneg l1, Int.toNat_of_nonneg l3]
theorem u_nat {a b : Int} (h : 0 ≤ a) (h2 : a ≤ b) : ∃ n : Nat, a = n ∧ (n : Int) ≤ b := ⟨a.toNat, by omega, by omega⟩
theorem script_in {H : Type} {enc : TypeId × Value → H} {W : World} {b0 : Nat} {v : Value} {d : DataW H} {ps : List MemPlace} (hval : Value.okWide Try.prog W .any b0 23 v) (h : DataW.Trod enc Try.prog W 0 (fun _ => true) true 23 v d ps) (hwt : ∀ n ∈ d.weights Try.prog 23, n ≤ reachBytes) : ∃ l : List Stp, Inp W.heap 5 l.length v (stepsV l) ∧ ∀ t ∈ l, t.ok :=
  inp_of_trod Try.underlying23 (show Try.prog.cellsOf 33 = 4 + 1 by kernel_rfl) by33 hwt stepV stepV_len Stp.ok step_elem hval h
end Go.Proofs.Ytpidkdkbgjnhlaa
