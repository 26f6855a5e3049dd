/- Lemmas for the proofs of this seat: no statement of the seat is claimed here. -/
import Derived.Test.YtfgpnipnaaeafaaLg
import Derived.Test.YtfgpnipnaaeafaaLc
set_option linter.all false

namespace Go.Proofs.Ytfgpnipnaaeafaa
set_option maxRecDepth 20000
open Go Pw Go.ChangeShapes Go.WideShapes Go.ChangeAt Go.RowKit
theorem u8_elem {H : Type} {enc : TypeId × Value → H} {W : World} {sp : Nat → Bool} {held : Bool} (n : Nat) (cs : List Value) (x : DataW H × List MemPlace) (h : DataW.trod enc Try.prog W 0 sp held n 5 cs = some x) (hl : cs.length = 0 + 1) (hw : ∀ y ∈ x.1.weights Try.prog 5, y ≤ reachBytes) : ∃ m : Nat, m < 256 ∧ cs = u8V m := by
  obtain ⟨m, e, l, u⟩ := cell_u Try.underlying5 h
  rw [IntKind.min_u8] at l
  rw [IntKind.max_u8] at u
  obtain ⟨m, rfl, ub⟩ := u_nat l u
  exact ⟨m, by omega, e⟩
theorem u8V_len (m : Nat) : (u8V m).length = 0 + 1 := rfl
theorem by5ex : Try.prog.bytesOf 5 = 1 := by kernel_rfl
theorem by5x : 0 < Try.prog.bytesOf 5 := by rw [by5ex]; decide
theorem u8s_in {H : Type} {enc : TypeId × Value → H} {W : World} {b0 : Nat} {v : Value} {d : DataW H} {ps : List MemPlace} (hval : Value.okWide Try.prog W .any b0 59 v) (h : DataW.Trod enc Try.prog W 0 (fun _ => true) true 59 v d ps) (hwt : ∀ n ∈ d.weights Try.prog 59, n ≤ reachBytes) : ∃ (l : List Nat) (a : Option Addr) (k : Nat), v = .slice a l.length k ∧ Inp W.heap (0 + 1) l.length (.slice a l.length k) (l.flatMap u8V) ∧ ∀ t ∈ l, t < 256 := by
  obtain ⟨l, hI, hok⟩ := inp_of_trod Try.underlying59 (show Try.prog.cellsOf 5 = 0 + 1 by kernel_rfl) by5x hwt u8V u8V_len (fun t => t < 256) u8_elem hval h
  have hI2 := hI
  obtain ⟨_, _, a, k, rfl, _⟩ := hI2
  exact ⟨l, a, k, rfl, hI, hok⟩
end Go.Proofs.Ytfgpnipnaaeafaa

