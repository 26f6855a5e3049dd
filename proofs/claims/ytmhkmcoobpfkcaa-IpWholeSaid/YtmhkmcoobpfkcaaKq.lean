/- Lemmas for the proofs of this seat: no statement of the seat is claimed here. -/
import Derived.Test.YtmhkmcoobpfkcaaSg
import Derived.Test.YtmhkmcoobpfkcaaKi
set_option linter.all false

namespace Go.Proofs.Ytmhkmcoobpfkcaa
set_option maxRecDepth 20000
open Go Pw Go.ChangeShapes Go.WideShapes Go.ChangeAt Go.RowKit
theorem str_elem {H : Type} {enc : TypeId × Value → H} {W : World} {sp : Nat → Bool} {held : Bool} (n : Nat) (cs : List Value) (x : DataW H × List MemPlace) (h : DataW.trod enc Try.prog W 0 sp held n 9 cs = some x) (hl : cs.length = 0 + 1) (hw : ∀ y ∈ x.1.weights Try.prog 9, y ≤ reachBytes) : ∃ s : List UInt8, s.length ≤ 140737488351232 ∧ cs = strV s := by
  obtain ⟨s, e, hs⟩ := cell_str Try.underlying9 h hw
  exact ⟨s, hs, e⟩
theorem strV_len (s : List UInt8) : (strV s).length = 0 + 1 := rfl
theorem by9e : Try.prog.bytesOf 9 = 16 := by kernel_rfl
theorem by9 : 0 < Try.prog.bytesOf 9 := by rw [by9e]; decide
theorem u8_elem {H : Type} {enc : TypeId × Value → H} {W : World} {sp : Nat → Bool} {held : Bool} (n : Nat) (cs : List Value) (x : DataW H × List MemPlace) (h : DataW.trod enc Try.prog W 0 sp held n 5 cs = some x) (hl : cs.length = 0 + 1) (hw : ∀ y ∈ x.1.weights Try.prog 5, y ≤ reachBytes) : ∃ m : Nat, m < 256 ∧ cs = u8V m := by
  obtain ⟨m, e, l, u⟩ := cell_u Try.underlying5 h
  rw [IntKind.min_u8] at l
  rw [IntKind.max_u8] at u
  obtain ⟨m, rfl, ub⟩ := u_nat l u
  exact ⟨m, by omega, e⟩
theorem u8V_len (m : Nat) : (u8V m).length = 0 + 1 := rfl
theorem by5e : Try.prog.bytesOf 5 = 1 := by kernel_rfl
theorem by5 : 0 < Try.prog.bytesOf 5 := by rw [by5e]; decide
theorem u16_elem {H : Type} {enc : TypeId × Value → H} {W : World} {sp : Nat → Bool} {held : Bool} (n : Nat) (cs : List Value) (x : DataW H × List MemPlace) (h : DataW.trod enc Try.prog W 0 sp held n 36 cs = some x) (hl : cs.length = 0 + 1) (hw : ∀ y ∈ x.1.weights Try.prog 36, y ≤ reachBytes) : ∃ m : Nat, m < 65536 ∧ cs = u16V m := by
  obtain ⟨m, e, l, u⟩ := cell_u Try.underlying36 h
  rw [IntKind.min_u16] at l
  rw [IntKind.max_u16] at u
  obtain ⟨m, rfl, ub⟩ := u_nat l u
  exact ⟨m, by omega, e⟩
theorem u16V_len (m : Nat) : (u16V m).length = 0 + 1 := rfl
theorem by36e : Try.prog.bytesOf 36 = 2 := by kernel_rfl
theorem by36 : 0 < Try.prog.bytesOf 36 := by rw [by36e]; decide
theorem strs_in {H : Type} {enc : TypeId × Value → H} {W : World} {b0 : Nat} {v : Value} {d : DataW H} {ps : List MemPlace} (hval : Value.okWide Try.prog W .any b0 45 v) (h : DataW.Trod enc Try.prog W 0 (fun _ => true) true 45 v d ps) (hwt : ∀ n ∈ d.weights Try.prog 45, n ≤ reachBytes) : ∃ (l : List (List UInt8)) (a : Option Addr) (k : Nat), v = .slice a l.length k ∧ Inp W.heap (0 + 1) l.length (.slice a l.length k) (l.flatMap strV) ∧ ∀ t ∈ l, t.length ≤ 140737488351232 := by
  obtain ⟨l, hI, hok⟩ := inp_of_trod Try.underlying45 (show Try.prog.cellsOf 9 = 0 + 1 by kernel_rfl) by9 hwt strV strV_len (fun t => t.length ≤ 140737488351232) str_elem hval h
  have hI2 := hI
  obtain ⟨_, _, a, k, rfl, _⟩ := hI2
  exact ⟨l, a, k, rfl, hI, hok⟩
theorem u8s_in {H : Type} {enc : TypeId × Value → H} {W : World} {b0 : Nat} {v : Value} {d : DataW H} {ps : List MemPlace} (hval : Value.okWide Try.prog W .any b0 46 v) (h : DataW.Trod enc Try.prog W 0 (fun _ => true) true 46 v d ps) (hwt : ∀ n ∈ d.weights Try.prog 46, n ≤ reachBytes) : ∃ (l : List Nat) (a : Option Addr) (k : Nat), v = .slice a l.length k ∧ Inp W.heap (0 + 1) l.length (.slice a l.length k) (l.flatMap u8V) ∧ ∀ t ∈ l, t < 256 := by
  obtain ⟨l, hI, hok⟩ := inp_of_trod Try.underlying46 (show Try.prog.cellsOf 5 = 0 + 1 by kernel_rfl) by5 hwt u8V u8V_len (fun t => t < 256) u8_elem hval h
  have hI2 := hI
  obtain ⟨_, _, a, k, rfl, _⟩ := hI2
  exact ⟨l, a, k, rfl, hI, hok⟩
theorem u16s_in {H : Type} {enc : TypeId × Value → H} {W : World} {b0 : Nat} {v : Value} {d : DataW H} {ps : List MemPlace} (hval : Value.okWide Try.prog W .any b0 47 v) (h : DataW.Trod enc Try.prog W 0 (fun _ => true) true 47 v d ps) (hwt : ∀ n ∈ d.weights Try.prog 47, n ≤ reachBytes) : ∃ (l : List Nat) (a : Option Addr) (k : Nat), v = .slice a l.length k ∧ Inp W.heap (0 + 1) l.length (.slice a l.length k) (l.flatMap u16V) ∧ ∀ t ∈ l, t < 65536 := by
  obtain ⟨l, hI, hok⟩ := inp_of_trod Try.underlying47 (show Try.prog.cellsOf 36 = 0 + 1 by kernel_rfl) by36 hwt u16V u16V_len (fun t => t < 65536) u16_elem hval h
  have hI2 := hI
  obtain ⟨_, _, a, k, rfl, _⟩ := hI2
  exact ⟨l, a, k, rfl, hI, hok⟩
end Go.Proofs.Ytmhkmcoobpfkcaa

