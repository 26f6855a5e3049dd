/- Lemmas for the proofs of this seat: no statement of the seat is claimed here. -/
import Derived.Test.YtcmafjngfcablaaSa
import Derived.Test.YtcmafjngfcablaaKu
set_option linter.all false

namespace Go.Proofs.Ytcmafjngfcablaa
set_option maxRecDepth 20000
open Go Pw Go.ChangeShapes Go.WideShapes Go.ChangeAt Go.RowKit
theorem inp_of_cells {H : Type} {enc : TypeId × Value → H} {W : World} {sp : Nat → Bool} {held : Bool} {P : Program} {t e : TypeId} {sz fuel : Nat} {cs : List Value} {xx : DataW H × List MemPlace} (ht : P.underlying t = some (.slice e)) (hc : P.cellsOf e = sz + 1) (hby : 0 < P.bytesOf e) (hwt : ∀ n ∈ xx.1.weights P t, n ≤ reachBytes)
    {α : Type} (f : α → List Value) (hf : ∀ x, (f x).length = sz + 1) (ok : α → Prop) (helem : ∀ n cs x, DataW.trod enc P W 0 sp held n e cs = some x → cs.length = sz + 1 → (∀ y ∈ x.1.weights P e, y ≤ reachBytes) → ∃ a, ok a ∧ cs = f a)
    (hfu : DataW.trod enc P W 0 sp held fuel t cs = some xx) : ∃ (l : List α) (a : Option Addr) (k : Nat), cs = [.slice a l.length k] ∧ Inp W.heap (sz + 1) l.length (.slice a l.length k) (l.flatMap f) ∧ ∀ a ∈ l, ok a := by
  obtain ⟨d, pp⟩ := xx
  rcases Go.Deep.open_slice ht hfu with ⟨hcs, _⟩ | ⟨a, len0, cap0, m, n, D, Pl, hcs, _, hle, hmax, hm, hx, hel⟩
  · exact ⟨[], none, 0, hcs, ⟨by simp, by simp, none, 0, rfl, .inl rfl⟩, by simp⟩
  · subst hcs
    have hlm : len0 ≤ m := by rw [hm]; split <;> omega
    obtain rfl : d = _ := congrArg Prod.fst hx
    have hw1 : len0 ≤ reachBytes := by
      have h1 := hwt _ (by simp only [DataW.weights, ht]; exact List.mem_cons_self)
      simp only [List.length_map, List.length_range] at h1
      have h2 := Nat.le_mul_of_pos_right (len0 + (m - len0)) hby
      omega
    have hwe : ∀ i, i < len0 → ∀ y ∈ (D i).weights P e, y ≤ reachBytes := fun i hi y hy =>
      hwt y (by simp only [DataW.weights, ht]; exact List.mem_cons_of_mem _ (List.mem_append_left _ (weightsAll_mem hy (List.mem_map.2 ⟨i, by simpa using hi, rfl⟩))))
    obtain ⟨l, hl, hq⟩ := list_of (α := α) (Q := fun i x => ok x ∧ W.cells? 0 (a.add (i * (sz + 1))) (sz + 1) = some (f x)) len0 fun i hi => by
      obtain ⟨cs', h1, h2⟩ := hel i (by omega)
      rw [hc] at h1
      obtain ⟨x, hx, rfl⟩ := helem n cs' _ h2 (cells_get h1).1 (hwe i hi)
      exact ⟨x, hx, h1⟩
    refine ⟨l, some a, cap0, by rw [hl], ⟨flat_len hf l, by unfold reachBytes at hw1; omega, some a, cap0, rfl, ?_⟩, fun x hx => ?_⟩
    · rcases Nat.eq_zero_or_pos len0 with h0 | h0
      · exact .inl (by rw [hl]; exact h0)
      · right
        have hrd : ∀ (j : Nat) u, (l.flatMap f)[j]? = some u → W.cell? (a.add j) = some u := fun j u hu => by
          have hj : j < l.length * (sz + 1) := by
            rw [← flat_len hf l]
            rcases Nat.lt_or_ge j (l.flatMap f).length with h1 | h1
            · exact h1
            · rw [List.getElem?_eq_none h1] at hu; cases hu
          have hdm := Nat.div_add_mod j (sz + 1)
          rw [Nat.mul_comm] at hdm
          have hi : j / (sz + 1) < l.length := Nat.div_lt_of_lt_mul (by rw [Nat.mul_comm]; exact hj)
          have hmod : j % (sz + 1) < sz + 1 := Nat.mod_lt _ (by omega)
          obtain ⟨x, hx⟩ := get_some hi
          have hg := flat_get hf l (j / (sz + 1)) (j % (sz + 1)) hmod
          rw [hdm, hx] at hg
          rw [hg] at hu
          have h3 := (cells_get (hq _ _ hx).2).2 (j % (sz + 1)) u (by simpa using hu)
          rw [Addr.add_add, hdm] at h3
          exact h3
        obtain ⟨x0, hx0⟩ := get_some (l := l) (i := 0) (by omega)
        have hs : a.spot = none := by
          have h1 := flat_get hf l 0 0 (by omega)
          rw [hx0] at h1
          obtain ⟨u, hu⟩ := get_some (l := f x0) (i := 0) (by rw [hf]; omega)
          have h2 := hrd 0 u (by simpa [hu] using h1)
          have := cell_spot h2
          simpa [Addr.add] using this
        refine ⟨a.block, a.off, by cases a; simp_all, fun j u hu w hw => ?_⟩
        have h1 := hrd j u hu
        have h2 : (a.add j) = ⟨a.block, a.off + j, none⟩ := by cases a; simp_all [Addr.add]
        rw [h2] at h1
        unfold World.cell? at h1 ⊢
        rw [hw]; exact h1
    · obtain ⟨i, hi⟩ := List.mem_iff_getElem?.1 hx
      exact (hq i x hi).1

theorem cc_3 : Try.prog.cellsOf 3 = 1 := by kernel_rfl
theorem cc_4 : Try.prog.cellsOf 4 = 1 := by kernel_rfl
theorem cc_5 : Try.prog.cellsOf 5 = 1 := by kernel_rfl
theorem cc_9 : Try.prog.cellsOf 9 = 1 := by kernel_rfl
theorem cc_31 : Try.prog.cellsOf 31 = 1 := by kernel_rfl
theorem cc_37 : Try.prog.cellsOf 37 = 3 := by kernel_rfl
theorem cc_38 : Try.prog.cellsOf 38 = 1 := by kernel_rfl
theorem cc_55 : Try.prog.cellsOf 55 = 6 := by kernel_rfl
theorem cell_b {H : Type} {enc : TypeId × Value → H} {W : World} {sp : Nat → Bool} {held : Bool} {t : TypeId} {fuel : Nat} {cs : List Value} {x : DataW H × List MemPlace} (ht : Try.prog.underlying t = some .bool) (h : DataW.trod enc Try.prog W 0 sp held fuel t cs = some x) : ∃ b : Bool, cs = [.bool b] := by
  obtain ⟨b, h1, _⟩ := DataW.trod_bool ht h
  exact ⟨b, h1⟩
theorem lst3 {α : Type} : ∀ {l : List α}, l.length = 3 → ∃ a0 a1 a2, l = [a0, a1, a2]
  | [a0, a1, a2], _ => ⟨a0, a1, a2, rfl⟩
theorem lst6 {α : Type} : ∀ {l : List α}, l.length = 6 → ∃ a0 a1 a2 a3 a4 a5, l = [a0, a1, a2, a3, a4, a5]
  | [a0, a1, a2, a3, a4, a5], _ => ⟨a0, a1, a2, a3, a4, a5, rfl⟩
theorem buf_elem {H : Type} {enc : TypeId × Value → H} {W : World} {sp : Nat → Bool} {held : Bool} (n : Nat) (cs : List Value) (x : DataW H × List MemPlace) (h : DataW.trod enc Try.prog W 0 sp held n 37 cs = some x) (hl : cs.length = 2 + 1) (hw : ∀ y ∈ x.1.weights Try.prog 37, y ≤ reachBytes) : ∃ t : Bf, t.ok ∧ cs = bufV t := by
  obtain ⟨xs, m, rfl, rfl, _, hxl, hf⟩ := DataW.trod_struct Try.underlying37 h
  obtain ⟨c0, c1, c2, rfl⟩ := lst3 hl
  obtain ⟨x0, x1, x2, rfl⟩ := lst3 hxl
  have h0 := field_of hf 0 31 0 1 rfl rfl rfl cc_31
  have h1 := field_of hf 1 31 1 1 rfl rfl rfl cc_31
  have h2 := field_of hf 2 4 2 1 rfl rfl rfl cc_4
  obtain ⟨n0, e0, l0, u0⟩ := cell_u Try.underlying31 h0
  obtain rfl := (List.cons.inj (show [c0] = _ from e0)).1
  obtain ⟨n1, e1, l1, u1⟩ := cell_u Try.underlying31 h1
  obtain rfl := (List.cons.inj (show [c1] = _ from e1)).1
  obtain ⟨b2, e2⟩ := cell_b Try.underlying4 h2
  obtain rfl := (List.cons.inj (show [c2] = _ from e2)).1
  rw [IntKind.min_u32] at l0 l1
  rw [IntKind.max_u32] at u0 u1
  obtain ⟨n0, rfl, u0b⟩ := u_nat l0 u0
  obtain ⟨n1, rfl, u1b⟩ := u_nat l1 u1
  exact ⟨⟨n0, n1, b2⟩, ⟨by dsimp only; omega, by dsimp only; omega⟩, rfl⟩
theorem bufV_len (t : Bf) : (bufV t).length = 2 + 1 := rfl
theorem by37e : Try.prog.bytesOf 37 = 12 := by kernel_rfl
theorem by37p : 0 < Try.prog.bytesOf 37 := by rw [by37e]; decide
theorem stp_elem {H : Type} {enc : TypeId × Value → H} {W : World} {sp : Nat → Bool} {held : Bool} (n : Nat) (cs : List Value) (x : DataW H × List MemPlace) (h : DataW.trod enc Try.prog W 0 sp held n 55 cs = some x) (hl : cs.length = 5 + 1) (hw : ∀ y ∈ x.1.weights Try.prog 55, y ≤ reachBytes) : ∃ t : Stp, t.ok W.heap ∧ cs = stpV t := by
  obtain ⟨xs, m, rfl, rfl, _, hxl, hf⟩ := DataW.trod_struct Try.underlying55 h
  obtain ⟨c0, c1, c2, c3, c4, c5, rfl⟩ := lst6 hl
  obtain ⟨x0, x1, x2, x3, x4, x5, rfl⟩ := lst6 hxl
  have h0 := field_of hf 0 3 0 1 rfl rfl rfl cc_3
  have h1 := field_of hf 1 38 1 1 rfl rfl rfl cc_38
  have h2 := field_of hf 2 31 2 1 rfl rfl rfl cc_31
  have h3 := field_of hf 3 9 3 1 rfl rfl rfl cc_9
  have h4 := field_of hf 4 5 4 1 rfl rfl rfl cc_5
  have h5 := field_of hf 5 31 5 1 rfl rfl rfl cc_31
  obtain ⟨n0, e0, l0, u0⟩ := cell_u Try.underlying3 h0
  obtain rfl := (List.cons.inj (show [c0] = _ from e0)).1
  obtain ⟨lb, la, lk, e1, hI1, hok1⟩ := inp_of_cells Try.underlying38 (show Try.prog.cellsOf 37 = 2 + 1 by kernel_rfl) by37p (fun y hy => hw y (by
    simp only [DataW.weights, Try.underlying55]
    exact DataW.weights_mem_each (j := 1) (t := 38) (d := x1.1) rfl rfl y hy)) bufV bufV_len Bf.ok buf_elem h1
  obtain rfl := (List.cons.inj (show [c1] = _ from e1)).1
  obtain ⟨n2, e2, l2, u2⟩ := cell_u Try.underlying31 h2
  obtain rfl := (List.cons.inj (show [c2] = _ from e2)).1
  obtain ⟨s3, e3, hs3⟩ := cell_str Try.underlying9 h3 (fun y hy => hw y (by
    simp only [DataW.weights, Try.underlying55]
    exact DataW.weights_mem_each (j := 3) (t := 9) (d := x3.1) rfl rfl y hy))
  obtain rfl := (List.cons.inj (show [c3] = _ from e3)).1
  obtain ⟨n4, e4, l4, u4⟩ := cell_u Try.underlying5 h4
  obtain rfl := (List.cons.inj (show [c4] = _ from e4)).1
  obtain ⟨n5, e5, l5, u5⟩ := cell_u Try.underlying31 h5
  obtain rfl := (List.cons.inj (show [c5] = _ from e5)).1
  rw [IntKind.min_u32] at l2 l5
  rw [IntKind.max_u32] at u2 u5
  rw [IntKind.min_u8] at l4
  rw [IntKind.max_u8] at u4
  obtain ⟨n2, rfl, u2b⟩ := u_nat l2 u2
  obtain ⟨n4, rfl, u4b⟩ := u_nat l4 u4
  obtain ⟨n5, rfl, u5b⟩ := u_nat l5 u5
  exact ⟨⟨n0, lb, la, lk, n2, s3, n4, n5⟩, ⟨hI1, hok1, by dsimp only; omega, hs3, by dsimp only; omega, by dsimp only; omega⟩, rfl⟩
theorem stpV_len (t : Stp) : (stpV t).length = 5 + 1 := rfl
theorem by55e : Try.prog.bytesOf 55 = 64 := by kernel_rfl
theorem by55p : 0 < Try.prog.bytesOf 55 := by rw [by55e]; decide
theorem script_in {H : Type} {enc : TypeId × Value → H} {W : World} {b0 : Nat} {v : Value} {d : DataW H} {ps : List MemPlace} (hval : Value.okWide Try.prog W .any b0 52 v) (h : DataW.Trod enc Try.prog W 0 (fun _ => true) true 52 v d ps) (hwt : ∀ n ∈ d.weights Try.prog 52, n ≤ reachBytes) : ∃ (l : List Stp) (a : Option Addr) (k : Nat), v = .slice a l.length k ∧ Inp W.heap (5 + 1) l.length (.slice a l.length k) (l.flatMap stpV) ∧ ∀ t ∈ l, t.ok W.heap := by
  obtain ⟨l, hI, hok⟩ := inp_of_trod Try.underlying52 (show Try.prog.cellsOf 55 = 5 + 1 by kernel_rfl) by55p hwt stpV stpV_len (Stp.ok W.heap) stp_elem hval h
  have hI2 := hI
  obtain ⟨_, _, a, k, rfl, _⟩ := hI2
  exact ⟨l, a, k, rfl, hI, hok⟩
end Go.Proofs.Ytcmafjngfcablaa

