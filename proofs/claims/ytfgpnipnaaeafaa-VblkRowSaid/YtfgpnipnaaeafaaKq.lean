/- Lemmas for the proofs of this seat: no statement of the seat is claimed here. -/
import Derived.Test.YtfgpnipnaaeafaaKm
import Derived.Test.YtfgpnipnaaeafaaKn
import Derived.Test.YtfgpnipnaaeafaaKo
set_option linter.all false

namespace Go.Proofs.Ytfgpnipnaaeafaa
open Go Pw
set_option maxRecDepth 20000
set_option maxHeartbeats 4000000
set_option synthInstance.maxHeartbeats 400000
set_option synthInstance.maxSize 4000
set_option maxHeartbeats 4000000

theorem gt_set {α : Type} [Inhabited α] {l : List α} {z m : Nat} {b : α} (hz : z < l.length) : gt (l.set z b) m = if m = z then b else gt l m := by
  unfold gt
  rw [List.getD_eq_getElem?_getD, List.getD_eq_getElem?_getD, List.getElem?_set]
  by_cases h : m = z
  · subst h; simp [hz]
  · have h' : ¬ z = m := fun e => h e.symm
    simp [h, h']
theorem cntF_succ (l : List Bool) (i : Nat) (h : i < l.length) : cntF l (i + 1) = cntF l i + (if gt l i then 0 else 1) := by
  cases hb : gt l i with
  | true => rw [← cntF_no h hb]; simp
  | false => rw [← cntF_yes h hb]; simp
theorem cntF_set {l : List Bool} {z : Nat} (hz : z < l.length) (h : gt l z = false) : ∀ i, i ≤ l.length → cntF (l.set z true) i + (if z < i then 1 else 0) = cntF l i
  | 0, _ => by simp [cntF]
  | i + 1, hi => by
    have ih := cntF_set hz h i (by omega)
    rw [cntF_succ _ _ (by rw [List.length_set]; omega), cntF_succ _ _ (by omega), gt_set hz]
    by_cases e : i = z
    · subst e
      simp [h] at ih ⊢
      omega
    · simp only [e, if_false]
      by_cases h2 : z < i
      · rw [if_pos h2] at ih; rw [if_pos (show z < i + 1 by omega)]; omega
      · rw [if_neg h2] at ih; rw [if_neg (show ¬ z < i + 1 by omega)]; omega
theorem cntF_clr {l : List Bool} {z : Nat} (hz : z < l.length) (h : gt l z = true) : ∀ i, i ≤ l.length → cntF (l.set z false) i = cntF l i + (if z < i then 1 else 0)
  | 0, _ => by simp [cntF]
  | i + 1, hi => by
    have ih := cntF_clr hz h i (by omega)
    rw [cntF_succ _ _ (by rw [List.length_set]; omega), cntF_succ _ _ (by omega), gt_set hz]
    by_cases e : i = z
    · subst e
      simp [h] at ih ⊢
      omega
    · simp only [e, if_false]
      by_cases h2 : z < i
      · rw [if_pos h2] at ih; rw [if_pos (show z < i + 1 by omega)]; omega
      · rw [if_neg h2] at ih; rw [if_neg (show ¬ z < i + 1 by omega)]; omega
theorem cntF_free {l : List Bool} : ∀ i, i ≤ l.length → 0 < cntF l i → ∃ m, m < i ∧ gt l m = false
  | 0, _, h => by simp [cntF] at h
  | i + 1, hi, h => by
    rw [cntF_succ _ _ (by omega)] at h
    cases hb : gt l i with
    | false => exact ⟨i, by omega, hb⟩
    | true =>
      rw [hb] at h
      simp at h
      obtain ⟨m, h1, h2⟩ := cntF_free i (by omega) h
      exact ⟨m, by omega, h2⟩
theorem nxt_spec {tk : List Bool} {i m0 : Nat} (h1 : i ≤ m0) (h2 : m0 < tk.length) (h3 : gt tk m0 = false) : i ≤ nxtF tk i ∧ nxtF tk i ≤ m0 ∧ gt tk (nxtF tk i) = false ∧ ∀ m, i ≤ m → m < nxtF tk i → gt tk m = true := by
  have key : ∀ k, k = m0 - i → (∃ j, i ≤ j ∧ j ≤ m0 ∧ gt tk j = false ∧ ∀ m, i ≤ m → m < j → gt tk m = true) := by
    intro k
    have gen : ∀ n j, i ≤ j → j ≤ m0 → n = m0 - j → (∀ m, i ≤ m → m < j → gt tk m = true) → ∃ j, i ≤ j ∧ j ≤ m0 ∧ gt tk j = false ∧ ∀ m, i ≤ m → m < j → gt tk m = true := by
      intro n
      induction n with
      | zero =>
        intro j a b c d
        obtain rfl : j = m0 := by omega
        exact ⟨j, a, b, h3, d⟩
      | succ n ih =>
        intro j a b c d
        cases hb : gt tk j with
        | false => exact ⟨j, a, b, hb, d⟩
        | true =>
          refine ih (j + 1) (by omega) (by omega) (by omega) fun m e f => ?_
          by_cases hm : m = j
          · rw [hm]; exact hb
          · exact d m e (by omega)
    intro hk
    exact gen _ i (Nat.le_refl _) h1 rfl fun m a b => by omega
  obtain ⟨j, a, b, c, d⟩ := key _ rfl
  have e := nxt_at a (by omega) c d
  rw [← e]
  exact ⟨a, b, c, d⟩
structure StOk (tk : List Bool) (j : Nat) : Prop where
  dl : (stE tk j).1.length = j
  tl : (stE tk j).2.1.length = tk.length
  x0 : 0 ≤ (stE tk j).2.2 + 1
  x1 : ((stE tk j).2.2 + 1).toNat ≤ tk.length
  all : ∀ m, m < ((stE tk j).2.2 + 1).toNat → gt (stE tk j).2.1 m = true
  cnt : cntF (stE tk j).2.1 tk.length + j = cntF tk tk.length
  dd : ∀ y ∈ (stE tk j).1, y < ((stE tk j).2.2 + 1).toNat ∧ gt tk y = false
  nd : (stE tk j).1.Nodup
  tt : ∀ m, m < tk.length → (gt (stE tk j).2.1 m = true ↔ gt tk m = true ∨ m ∈ (stE tk j).1)
theorem st_free {tk : List Bool} {j : Nat} (h : StOk tk j) (hj : j < cntF tk tk.length) : ∃ m0, 0 ≤ (stE tk j).2.2 + 1 ∧ ((stE tk j).2.2 + 1).toNat ≤ m0 ∧ m0 < (stE tk j).2.1.length ∧ gt (stE tk j).2.1 m0 = false := by
  have hc := h.cnt
  obtain ⟨m, h1, h2⟩ := cntF_free (l := (stE tk j).2.1) tk.length (by rw [h.tl]; omega) (by omega)
  refine ⟨m, h.x0, ?_, by rw [h.tl]; exact h1, h2⟩
  rcases Nat.lt_or_ge m ((stE tk j).2.2 + 1).toNat with h3 | h3
  · have := h.all m h3
    rw [this] at h2; cases h2
  · exact h3
theorem st_ok {tk : List Bool} : ∀ j, j ≤ cntF tk tk.length → StOk tk j
  | 0, _ => { dl := rfl, tl := rfl, x0 := by show (0 : Int) ≤ -1 + 1; omega, x1 := by show ((-1 : Int) + 1).toNat ≤ _; omega, all := fun m h => by (have h' : m < ((-1 : Int) + 1).toNat := h); omega, cnt := by show cntF tk tk.length + 0 = _; omega, dd := fun y h => absurd h List.not_mem_nil, nd := List.nodup_nil, tt := fun m hm => by show gt tk m = true ↔ gt tk m = true ∨ m ∈ []; simp }
  | j + 1, hj => by
    have h : StOk tk j := st_ok j (Nat.le_of_succ_le hj)
    obtain ⟨m0, a, b, c, d⟩ := st_free h (by omega)
    obtain ⟨e1, e2, e3, e4⟩ := nxt_spec b c d
    have hz : nxtF (stE tk j).2.1 ((stE tk j).2.2 + 1).toNat < (stE tk j).2.1.length := by omega
    have s1 : (stE tk (j + 1)).1 = (stE tk j).1 ++ [nxtF (stE tk j).2.1 ((stE tk j).2.2 + 1).toNat] := rfl
    have s2 : (stE tk (j + 1)).2.1 = (stE tk j).2.1.set (nxtF (stE tk j).2.1 ((stE tk j).2.2 + 1).toNat) true := rfl
    have s3 : (stE tk (j + 1)).2.2 = (nxtF (stE tk j).2.1 ((stE tk j).2.2 + 1).toNat : Nat) := rfl
    have htl := h.tl
    generalize hZ : nxtF (stE tk j).2.1 ((stE tk j).2.2 + 1).toNat = z at *
    have hn : gt tk z = false := by
      cases hb : gt tk z with
      | false => rfl
      | true =>
        have := (h.tt z (by omega)).2 (.inl hb)
        rw [this] at e3; cases e3
    refine ⟨?_, ?_, ?_, ?_, ?_, ?_, ?_, ?_, ?_⟩
    · rw [s1, List.length_append, h.dl]; rfl
    · rw [s2, List.length_set]; exact htl
    · rw [s3]; omega
    · rw [s3]; omega
    · intro m hm
      rw [s3] at hm
      rw [s2, gt_set hz]
      split
      · rfl
      · rcases Nat.lt_or_ge m ((stE tk j).2.2 + 1).toNat with h5 | h5
        · exact h.all m h5
        · exact e4 m h5 (by omega)
    · have := cntF_set hz e3 tk.length (by omega)
      rw [if_pos (by omega)] at this
      have hc := h.cnt
      rw [s2]; omega
    · intro y hy
      rw [s1, List.mem_append] at hy
      rw [s3]
      rcases hy with hy | hy
      · have := h.dd y hy
        exact ⟨by omega, this.2⟩
      · rw [List.mem_singleton] at hy
        subst hy
        exact ⟨by omega, hn⟩
    · rw [s1, List.nodup_append]
      refine ⟨h.nd, by simp, ?_⟩
      intro x hx y hy
      rw [List.mem_singleton] at hy
      subst hy
      intro e9
      have := (h.dd x hx).1
      omega
    · intro m hm
      rw [s1, s2, gt_set hz, List.mem_append, List.mem_singleton]
      split
      · rename_i h9; subst h9; simp
      · rename_i h9
        rw [h.tt m hm]
        simp [h9]
theorem imp_st {tk : List Bool} {ta : Option Addr} {tc ci : Nat} {L L1 R : List Assn} (h1 : Del (row 3 ci [.int .i64 (-1)]) L L1) (h2 : Del (Pw.sl 4 (0 + 1) (.slice ta tk.length tc) tk.length (tk.map Value.bool)) L1 R) : Imp L (row 3 ci [.int .i64 (stE tk 0).2.2] :: Pw.sl 4 (0 + 1) (.slice ta tk.length tc) tk.length ((stE tk 0).2.1.map Value.bool) :: Pw.sl 39 (0 + 1) (.slice none 0 0) 0 ((stE tk 0).1.map u16W) :: R) :=
  Imp.pull h1 (Imp.pull h2 (Imp.slN (Imp.refl R)))
instance {n : Nat} : Inv u16W (.int .u16 ((n : Nat) : Int)) n True := ⟨fun _ => rfl⟩
instance {L R : List Assn} {r p at_ n nx ls k m : Nat} {vp : Value} {br : Bool} {a : Option Addr} {l : List Bf} {bs : List UInt8} {lt : List Bool} {R1 R2 : List Assn} {R3 : List Assn} {tk : List Bool} {ta : Option Addr} {tm tc : Nat} [h1 : RowDel L r 84 [.pointer (some ⟨p, 0, none⟩), .int .u32 (at_ : Nat), .int .i64 (n : Nat), vp, .slice ta tm tc, .int .u16 (nx : Nat), .int .u16 (ls : Nat), .bool br] R1] [h2 : MemAt R1 p bs lt R2] [h3 : SlAt R2 (.slice ta tm tc) 4 (0 + 1) tm (tk.map Value.bool) R3] [h4 : SlAt R3 (.slice a m k) 90 (2 + 1) m (l.flatMap bufV) R] : FnR Try.prog 48 [.pointer (some ⟨r, 0, none⟩), .slice a m k] L (fun kk => Vc (m = l.length ∧ tm = tk.length ∧ (∀ b ∈ l, b.ok) ∧ l.length < 9223372036854775808 ∧ bs.length ≤ 1048576 ∧ tk.length ≤ 256) (∀ e, MayP l bs.length (cntF tk tk.length) e → kk (.int .i64 (e : Nat)) (row 84 r [.pointer (some ⟨p, 0, none⟩), .int .u32 (at_ : Nat), .int .i64 (n : Nat), vp, .slice ta tm tc, .int .u16 (nx : Nat), .int .u16 (ls : Nat), .bool br] :: memA p bs lt :: Pw.sl 4 (0 + 1) (.slice ta tm tc) tm (tk.map Value.bool) :: Pw.sl 90 (2 + 1) (.slice a m k) m (l.flatMap bufV) :: R))) :=
  ⟨fun kk h => by
    obtain ⟨⟨rfl, rfl, e1, e2, e3, e4⟩, h9⟩ := h
    exact ⟨_, R, _, may_spec r p at_ n nx ls k tc vp br a ta l tk bs lt e1 e2 e3 e4, .cons h1.h (.cons h2.h (.cons h3.h (.cons h4.h (.nil _)))), fun v L' hv => by obtain ⟨e, f1, f2, f3⟩ := hv; rw [f2, f3]; exact h9 e f1⟩⟩
instance {L R : List Assn} {r p at_ n nx ls k m : Nat} {vp : Value} {br : Bool} {a : Option Addr} {l : List Bf} {bs : List UInt8} {lt : List Bool} {R1 R2 : List Assn} {vt : Value} [h1 : RowDel L r 84 [.pointer (some ⟨p, 0, none⟩), .int .u32 (at_ : Nat), .int .i64 (n : Nat), vp, vt, .int .u16 (nx : Nat), .int .u16 (ls : Nat), .bool br] R1] [h2 : MemAt R1 p bs lt R2] [h4 : SlAt R2 (.slice a m k) 90 (2 + 1) m (l.flatMap bufV) R] : FnR Try.prog 49 [.pointer (some ⟨r, 0, none⟩), .slice a m k] L (fun kk => Vc (m = l.length ∧ (∀ b ∈ l, b.ok) ∧ l.length ≤ 8 ∧ (∀ b ∈ l, b.at_ + b.len ≤ bs.length) ∧ bs.length ≤ 1048576 ∧ at_ ≤ 1048576 ∧ sizeE n ≤ 10000) (∀ e lt', LendP at_ (sizeE n) lt l e lt' → kk (.int .i64 (e : Nat)) (row 84 r [.pointer (some ⟨p, 0, none⟩), .int .u32 (at_ : Nat), .int .i64 (n : Nat), vp, vt, .int .u16 (nx : Nat), .int .u16 (ls : Nat), .bool br] :: memA p bs lt' :: Pw.sl 90 (2 + 1) (.slice a m k) m (l.flatMap bufV) :: R))) :=
  ⟨fun kk h => by
    obtain ⟨⟨rfl, e1, e2, e3, e4, e5, e6⟩, h9⟩ := h
    exact ⟨_, R, _, lend_spec r p at_ n nx ls k vp vt br a l bs lt e1 e2 e3 e4 e5 e6, .cons h1.h (.cons h2.h (.cons h4.h (.nil _))), fun v L' hv => by obtain ⟨e, lt', f1, f2, f3⟩ := hv; rw [f2, f3]; exact h9 e lt' f1⟩⟩
instance {L R : List Assn} {m k : Nat} {a : Option Addr} {l : List Bf} [h4 : SlAt L (.slice a m k) 90 (2 + 1) m (l.flatMap bufV) R] : FnR Try.prog 50 [.slice a m k] L (fun kk => Vc (m = l.length ∧ 0 < l.length ∧ l.length ≤ 1000) (∀ a2 k2, kk (.slice a2 m k2) (Pw.sl 90 (2 + 1) (.slice a m k) m (l.flatMap bufV) :: Pw.sl 90 (2 + 1) (.slice a2 m k2) m (l.flatMap bufV) :: R))) :=
  ⟨fun kk h => by
    obtain ⟨⟨rfl, e1, e2⟩, h9⟩ := h
    exact ⟨_, R, _, cloneB_spec k a l e1 e2, .cons h4.h (.nil _), fun v L' hv => by obtain ⟨a2, k2, f2, f3⟩ := hv; rw [f2, f3]; exact h9 a2 k2⟩⟩
theorem free_spec (r : Nat) :
    Sat Try.prog 51 [.pointer (some ⟨r, 0, none⟩)] [] (fun u L' => ∃ ci bx, u = .func (.func 70) #[] #[.pointer (some ⟨ci, 0, none⟩), .pointer (some ⟨bx, 0, none⟩)] ∧ L' = [row 3 ci [.int .i64 (-1)], row 37 bx [.pointer (some ⟨r, 0, none⟩)]]) := by
  all_goals
    refine Sat.enter Try.func51 rfl Try.ntmps51 rfl (fun c R => ?_)
    try simp only [List.cons_append, List.nil_append]
    repeat' (first
      | (refine finAt ?_; exact Fini.of ⟨_, _, rfl, rfl⟩ (by repeat first | exact Imp.refl _ | (apply Imp.pull; focus ((repeat first | exact Del.head _ _ | apply Del.tail); done)) | apply Imp.drop))
      | refine And.intro (fun hc => ?_) (fun hc => ?_)
      | refine And.intro ?_ ?_
      | intro b
      | refine stp ?_
      | refine TQ.finC ?_
      | refine TQ.finC2 ?_
      | refine TQ.finC3 ?_
      | refine ⟨fun hc => ?_, fun hc => ?_⟩
      | refine Ei.f ?_
      | refine ⟨?_, ?_⟩
      | intro b
      | exact absurd rfl hc
      | exact absurd hc (by decide)
      | omega
      | (dsimp only; omega)
      | fail)
instance {L : List Assn} {r : Nat} : FnR Try.prog 51 [.pointer (some ⟨r, 0, none⟩)] L (fun kk => ∀ ci bx, kk (.func (.func 70) #[] #[.pointer (some ⟨ci, 0, none⟩), .pointer (some ⟨bx, 0, none⟩)]) (row 3 ci [.int .i64 (-1)] :: row 37 bx [.pointer (some ⟨r, 0, none⟩)] :: L)) :=
  ⟨fun kk h => ⟨[], L, _, free_spec r, .nil _, fun v L' hv => by obtain ⟨ci, bx, f2, f3⟩ := hv; rw [f2, f3]; exact h ci bx⟩⟩

end Go.Proofs.Ytfgpnipnaaeafaa

