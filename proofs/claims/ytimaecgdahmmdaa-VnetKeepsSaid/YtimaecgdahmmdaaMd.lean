/- Lemmas for the proofs of this seat: no statement of the seat is claimed here. -/
import Derived.Test.YtimaecgdahmmdaaMa
import Derived.Test.YtimaecgdahmmdaaLc
set_option linter.all false

namespace Go.Proofs.Ytimaecgdahmmdaa
set_option maxRecDepth 20000
open Go Pw Go.ChangeShapes Go.WideShapes Go.ChangeAt Go.RowKit
theorem cc_3 : Try.prog.cellsOf 3 = 1 := by kernel_rfl
theorem cc_5 : Try.prog.cellsOf 5 = 1 := by kernel_rfl
theorem cc_9 : Try.prog.cellsOf 9 = 1 := by kernel_rfl
theorem cc_35 : Try.prog.cellsOf 35 = 1 := by kernel_rfl
theorem cc_65 : Try.prog.cellsOf 65 = 5 := by kernel_rfl
theorem lst5 {α : Type} : ∀ {l : List α}, l.length = 5 → ∃ a0 a1 a2 a3 a4, l = [a0, a1, a2, a3, a4]
  | [a0, a1, a2, a3, a4], _ => ⟨a0, a1, a2, a3, a4, rfl⟩
theorem stp_elem {H : Type} {enc : TypeId × Value → H} {W : World} {sp : Nat → Bool} {held : Bool} (n : Nat) (cs : List Value) (x : DataW H × List MemPlace) (h : DataW.trod enc Try.prog W 0 sp held n 65 cs = some x) (hl : cs.length = 4 + 1) (hw : ∀ y ∈ x.1.weights Try.prog 65, y ≤ reachBytes) : ∃ t : Stp, t.ok ∧ cs = stpV t := by
  obtain ⟨xs, m, rfl, rfl, _, hxl, hf⟩ := DataW.trod_struct Try.underlying65 h
  obtain ⟨c0, c1, c2, c3, c4, rfl⟩ := lst5 hl
  obtain ⟨x0, x1, x2, x3, x4, rfl⟩ := lst5 hxl
  have h0 := field_of hf 0 3 0 1 rfl rfl rfl cc_3
  have h1 := field_of hf 1 9 1 1 rfl rfl rfl cc_9
  have h2 := field_of hf 2 5 2 1 rfl rfl rfl cc_5
  have h3 := field_of hf 3 35 3 1 rfl rfl rfl cc_35
  have h4 := field_of hf 4 35 4 1 rfl rfl rfl cc_35
  obtain ⟨n0, e0, l0, u0⟩ := cell_u Try.underlying3 h0
  obtain rfl := (List.cons.inj (show [c0] = _ from e0)).1
  obtain ⟨s1, e1, hs1⟩ := cell_str Try.underlying9 h1 (fun y hy => hw y (by
    simp only [DataW.weights, Try.underlying65]
    exact DataW.weights_mem_each (j := 1) (t := 9) (d := x1.1) rfl rfl y hy))
  obtain rfl := (List.cons.inj (show [c1] = _ from e1)).1
  obtain ⟨n2, e2, l2, u2⟩ := cell_u Try.underlying5 h2
  obtain rfl := (List.cons.inj (show [c2] = _ from e2)).1
  obtain ⟨n3, e3, l3, u3⟩ := cell_u Try.underlying35 h3
  obtain rfl := (List.cons.inj (show [c3] = _ from e3)).1
  obtain ⟨n4, e4, l4, u4⟩ := cell_u Try.underlying35 h4
  obtain rfl := (List.cons.inj (show [c4] = _ from e4)).1
  rw [IntKind.min_u32] at l3 l4
  rw [IntKind.max_u32] at u3 u4
  rw [IntKind.min_u8] at l2
  rw [IntKind.max_u8] at u2
  obtain ⟨n2, rfl, u2b⟩ := u_nat l2 u2
  obtain ⟨n3, rfl, u3b⟩ := u_nat l3 u3
  obtain ⟨n4, rfl, u4b⟩ := u_nat l4 u4
  exact ⟨⟨n0, s1, n2, n3, n4⟩, ⟨hs1, by dsimp only; omega, by dsimp only; omega, by dsimp only; omega⟩, rfl⟩
theorem stpV_len (t : Stp) : (stpV t).length = 4 + 1 := rfl
theorem by65e : Try.prog.bytesOf 65 = 40 := by kernel_rfl
theorem by65p : 0 < Try.prog.bytesOf 65 := by rw [by65e]; decide
theorem script_in {H : Type} {enc : TypeId × Value → H} {W : World} {b0 : Nat} {v : Value} {d : DataW H} {ps : List MemPlace} (hval : Value.okWide Try.prog W .any b0 62 v) (h : DataW.Trod enc Try.prog W 0 (fun _ => true) true 62 v d ps) (hwt : ∀ n ∈ d.weights Try.prog 62, n ≤ reachBytes) : ∃ (l : List Stp) (a : Option Addr) (k : Nat), v = .slice a l.length k ∧ Inp W.heap (4 + 1) l.length (.slice a l.length k) (l.flatMap stpV) ∧ ∀ t ∈ l, t.ok := by
  obtain ⟨l, hI, hok⟩ := inp_of_trod Try.underlying62 (show Try.prog.cellsOf 65 = 4 + 1 by kernel_rfl) by65p hwt stpV stpV_len Stp.ok stp_elem hval h
  have hI2 := hI
  obtain ⟨_, _, a, k, rfl, _⟩ := hI2
  exact ⟨l, a, k, rfl, hI, hok⟩
end Go.Proofs.Ytimaecgdahmmdaa

