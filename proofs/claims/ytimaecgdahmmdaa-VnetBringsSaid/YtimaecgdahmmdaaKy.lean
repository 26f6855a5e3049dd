/- Lemmas for the proofs of this seat: no statement of the seat is claimed here. -/
import Derived.Test.YtimaecgdahmmdaaKw
import Derived.Test.YtimaecgdahmmdaaKx
set_option linter.all false

namespace Go.Proofs.Ytimaecgdahmmdaa
open Go Pw
set_option maxRecDepth 20000
set_option maxHeartbeats 4000000
/-! What New makes (plain law). -/
/-- Where the parts of a card stand. -/
structure Lay (A1 n1 A2 n2 P bz N : Nat) : Prop where
  n10 : 0 < n1
  n12 : n1 ≤ 64
  n20 : 0 < n2
  n22 : n2 ≤ 64
  s1 : sizeE (n1 : Nat) = partN n1 + 6 + 8 * n1
  s2 : sizeE (n2 : Nat) = partN n2 + 6 + 8 * n2
  a16 : A1 % 16 = 0
  b16 : A2 % 16 = 0
  eA : A2 = A1 + rndN (sizeE (n1 : Nat))
  eP : P = A2 + rndN (sizeE (n2 : Nat))
  b0 : 64 ≤ bz
  b1 : bz ≤ 2048
  PN : P + bz * n1 + bz * n2 ≤ N
  N2 : N ≤ 1048576
theorem Lay.le {A1 n1 A2 n2 P bz N : Nat} (g : Lay A1 n1 A2 n2 P bz N) : A1 + sizeE (n1 : Nat) ≤ A2 ∧ A2 + sizeE (n2 : Nat) ≤ P ∧ P ≤ N ∧ bz * 1 ≤ bz * n1 ∧ bz * 1 ≤ bz * n2 := by
  have h1 := g.eA
  have h2 := g.eP
  have h3 := g.PN
  rw [rnd_eq] at h1 h2
  refine ⟨by omega, by omega, by omega, Nat.mul_le_mul_left _ g.n10, Nat.mul_le_mul_left _ g.n20⟩
/-- What is lent, once so many buffers are. -/
def LTn (A1 n1 A2 n2 P bz N i : Nat) : List Bool := (List.range N).map fun k => decide ((A1 + partN n1 ≤ k ∧ k < A1 + sizeE (n1 : Nat)) ∨ (A2 + partN n2 ≤ k ∧ k < A2 + sizeE (n2 : Nat)) ∨ (P ≤ k ∧ k < P + bz * i))
theorem LTn_len (A1 n1 A2 n2 P bz N i : Nat) : (LTn A1 n1 A2 n2 P bz N i).length = N := by unfold LTn; simp
theorem LTn_get (A1 n1 A2 n2 P bz N i : Nat) {k : Nat} (h : k < N) : (LTn A1 n1 A2 n2 P bz N i)[k]? = some (decide ((A1 + partN n1 ≤ k ∧ k < A1 + sizeE (n1 : Nat)) ∨ (A2 + partN n2 ≤ k ∧ k < A2 + sizeE (n2 : Nat)) ∨ (P ≤ k ∧ k < P + bz * i))) := by
  unfold LTn
  rw [List.getElem?_map, List.getElem?_range h]
  rfl
theorem LTn_geo {A1 n1 A2 n2 P bz N : Nat} (g : Lay A1 n1 A2 n2 P bz N) : Geo A1 n1 P bz N (LTn A1 n1 A2 n2 P bz N n1) := by
  have h1 := g.le
  have h2 := g.n12
  have h3 := g.PN
  refine ⟨g.n10, by omega, g.s1, by omega, by omega, g.N2, by have := g.b0; omega, LTn_len _ _ _ _ _ _ _ _, fun k h4 h5 => ?_, fun k h4 h5 => ?_⟩
  · rw [LTn_get _ _ _ _ _ _ _ _ (by omega)]
    congr 1
    exact decide_eq_true (.inl ⟨h4, h5⟩)
  · rw [LTn_get _ _ _ _ _ _ _ _ (by omega)]
    congr 1
    exact decide_eq_true (.inr (.inr ⟨h4, h5⟩))
theorem rep_get {α : Type} {N k : Nat} {a : α} (h : k < N) : (List.replicate N a)[k]? = some a := by rw [List.getElem?_replicate, if_pos h]
theorem putB_zero {N a s : Nat} (h : a + s ≤ N) : putB (List.replicate N 0) a (List.replicate s 0) = List.replicate N 0 := by
  apply List.ext_getElem?
  intro k
  unfold putB
  rw [List.take_replicate, List.length_replicate, List.drop_replicate]
  rw [List.replicate_append_replicate, List.replicate_append_replicate]
  congr 2
  omega
/-- The first ring. -/
theorem new1_write {N A S : Nat} (h : A + S ≤ N) : writeE (List.replicate N 0) (List.replicate N false) A (List.replicate S 0) false 11 = (0, List.replicate N 0) := by
  unfold writeE
  rw [if_pos (by simp; omega), if_pos, putB_zero h]
  refine (allB_iff (by simp; omega)).2 fun k h1 h2 => ?_
  rw [List.length_replicate] at h2
  exact rep_get (by omega)
def LT1 (A1 n1 N : Nat) : List Bool := fillB (List.replicate N false) (A1 + partN n1) (sizeE (n1 : Nat) - partN n1) true
theorem LT1_get {A1 n1 N k : Nat} (h : A1 + sizeE (n1 : Nat) ≤ N) (hs : partN n1 ≤ sizeE (n1 : Nat)) (hk : k < N) : (LT1 A1 n1 N)[k]? = some (decide (A1 + partN n1 ≤ k ∧ k < A1 + sizeE (n1 : Nat))) := by
  unfold LT1
  rw [fillB_get (by simp; omega) k (by simp; omega), rep_get hk]
  split
  · rename_i h1; congr 1; exact (decide_eq_true (by omega)).symm
  · rename_i h1; congr 1; exact (decide_eq_false (by omega)).symm
theorem LT1_len {A1 n1 N : Nat} (h : A1 + sizeE (n1 : Nat) ≤ N) (hs : partN n1 ≤ sizeE (n1 : Nat)) : (LT1 A1 n1 N).length = N := by
  unfold LT1
  rw [fillB_len (by simp; omega)]; simp
theorem new1_lend {A1 n1 N e : Nat} (h : A1 + sizeE (n1 : Nat) ≤ N) (hs : partN n1 < sizeE (n1 : Nat)) : turnE (List.replicate N false) (A1 + partN n1) (sizeE (n1 : Nat) - partN n1) true e = (0, LT1 A1 n1 N) := by
  unfold turnE
  rw [if_pos ⟨by omega, by simp; omega⟩, if_pos]
  · rfl
  · rw [Bool.not_true]
    exact (allB_iff (by simp; omega)).2 fun k h1 h2 => rep_get (by omega)
theorem new2_write {A1 n1 A2 N S : Nat} (h1 : A1 + sizeE (n1 : Nat) ≤ A2) (hs : partN n1 ≤ sizeE (n1 : Nat)) (h : A2 + S ≤ N) : writeE (List.replicate N 0) (LT1 A1 n1 N) A2 (List.replicate S 0) false 11 = (0, List.replicate N 0) := by
  have hl : (LT1 A1 n1 N).length = N := LT1_len (by omega) hs
  unfold writeE
  rw [if_pos (by simp; omega), if_pos, putB_zero h]
  refine (allB_iff (by rw [hl]; simp; omega)).2 fun k h3 h2 => ?_
  rw [List.length_replicate] at h2
  rw [LT1_get (by omega) hs (by omega)]
  congr 1
  exact decide_eq_false (by omega)
theorem new2_lend {A1 n1 A2 n2 P bz N e : Nat} (h1 : A1 + sizeE (n1 : Nat) ≤ A2) (hs : partN n1 ≤ sizeE (n1 : Nat)) (h2 : A2 + sizeE (n2 : Nat) ≤ N) (hs2 : partN n2 < sizeE (n2 : Nat)) : turnE (LT1 A1 n1 N) (A2 + partN n2) (sizeE (n2 : Nat) - partN n2) true e = (0, LTn A1 n1 A2 n2 P bz N 0) := by
  have hl : (LT1 A1 n1 N).length = N := LT1_len (by omega) hs
  unfold turnE
  rw [if_pos ⟨by omega, by rw [hl]; omega⟩, if_pos]
  · congr 1
    apply List.ext_getElem?
    intro k
    by_cases hk : k < N
    · rw [fillB_get (by rw [hl]; omega) k (by rw [hl]; exact hk), LTn_get _ _ _ _ _ _ _ _ hk, LT1_get (by omega) hs hk]
      split
      · rename_i h3; congr 1; exact (decide_eq_true (.inr (.inl (by omega)))).symm
      · rename_i h3
        congr 1
        rw [Bool.eq_iff_iff, decide_eq_true_iff, decide_eq_true_iff]
        constructor
        · exact fun h => .inl h
        · rintro (h | h | h)
          · exact h
          · omega
          · rw [Nat.mul_zero] at h; omega
    · rw [List.getElem?_eq_none (by rw [fillB_len (by rw [hl]; omega), hl]; omega), List.getElem?_eq_none (by rw [LTn_len]; omega)]
  · rw [Bool.not_true]
    refine (allB_iff (by rw [hl]; omega)).2 fun k h3 h4 => ?_
    rw [LT1_get (by omega) hs (by omega)]
    congr 1
    exact decide_eq_false (by omega)
/-- While the buffers are handed out. -/
structure NwI (A1 n1 P bz N : Nat) (i : Nat) (X : XC) (tk : List Bool) (nx : Nat) (bs : List UInt8) (wh : List UInt8) : Prop where
  ok : RgOk A1 N X tk nx 0
  tl : tk.length = n1
  xl : X.length = i
  ea : ∀ y ∈ X, RxC P bz y
  tk1 : ∀ m, m < n1 → gt tk m = decide (m < i)
  bl : bs.length = N
  z : ∀ k, (k < A1 ∨ A1 + partN n1 ≤ k) → bs[k]? = (List.replicate N 0)[k]?
  wl : wh.length = n1
  w : ∀ m, m < n1 → gt wh m = if m < i then 1 else 0
theorem nw_get {A1 n1 P bz N i a e nx : Nat} {X : XC} {tk : List Bool} {bs wh wh' : List UInt8} (h : NwI A1 n1 P bz N i X tk nx bs wh) (hi : i < n1) (hg : GetP P bz wh a e wh') : a = P + bz * i ∧ e = 0 ∧ wh'.length = n1 ∧ ∀ m, m < n1 → gt wh' m = if m < i + 1 then 1 else 0 := by
  have hwl := h.wl
  cases hg with
  | full h1 =>
    have := h1 i (by omega)
    rw [h.w i hi, if_neg (by omega)] at this
    exact absurd rfl this
  | got j h1 h2 h3 =>
    have hj : j = i := by
      rcases Nat.lt_trichotomy j i with h4 | h4 | h4
      · rw [h.w j (by omega), if_pos h4] at h2; exact absurd h2 (by decide)
      · exact h4
      · have := h3 i h4
        rw [h.w i hi, if_neg (by omega)] at this
        exact absurd rfl this
    subst hj
    refine ⟨by rw [Nat.mul_comm], rfl, by rw [List.length_set]; exact hwl, fun m hm => ?_⟩
    rw [gt_set (by omega)]
    by_cases h5 : m = j
    · rw [if_pos h5, if_pos (by omega)]
    · rw [if_neg h5, h.w m hm]
      by_cases h6 : m < j
      · rw [if_pos h6, if_pos (by omega)]
      · rw [if_neg h6, if_neg (by omega)]
theorem cnt_pos {tk : List Bool} {i : Nat} (hi : i < tk.length) (h : gt tk i = false) : 1 ≤ cntF tk tk.length := by
  have h1 := cntF_yes hi h
  have h2 : cntF tk (i + 1) ≤ cntF tk tk.length := by
    unfold cntF
    have : tk.take (i + 1) = (tk.take tk.length).take (i + 1) := by rw [List.take_take, Nat.min_eq_left (by omega)]
    rw [this]
    exact ((List.take_sublist _ _).filter _).length_le
  omega
theorem st_least {tk : List Bool} {i : Nat} (hi : i < tk.length) (h1 : ∀ m, m < i → gt tk m = true) (h2 : gt tk i = false) : (stE tk 1).1 = [i] ∧ ∀ m, m < tk.length → (gt (stE tk 1).2.1 m = true ↔ gt tk m = true ∨ m = i) := by
  have hst := st_ok 1 (tk := tk) (cnt_pos hi h2)
  have hnx : nxtF tk 0 = i := (nxt_at (tk := tk) (i := 0) (Nat.zero_le _) hi h2 (fun m _ hm => h1 m hm)).symm
  have e : (stE tk 1).1 = [i] := by
    show [] ++ [nxtF tk _] = [i]
    rw [List.nil_append]
    exact congrArg (fun x => [x]) hnx
  refine ⟨e, fun m hm => ?_⟩
  rw [hst.tt m hm, e, List.mem_singleton]
theorem LTn_turn {A1 n1 A2 n2 P bz N : Nat} (g : Lay A1 n1 A2 n2 P bz N) {i : Nat} (hi : i < n1) {e : Nat} : turnE (LTn A1 n1 A2 n2 P bz N i) (P + bz * i) bz true e = (0, LTn A1 n1 A2 n2 P bz N (i + 1)) := by
  have h1 := g.le
  have h2 := g.PN
  have h3 : bz * (i + 1) ≤ bz * n1 := Nat.mul_le_mul_left bz hi
  rw [Nat.mul_succ] at h3
  have hl := LTn_len A1 n1 A2 n2 P bz N i
  have hb := g.b0
  unfold turnE
  rw [if_pos ⟨by omega, by rw [hl]; omega⟩, if_pos]
  · congr 1
    apply List.ext_getElem?
    intro k
    by_cases hk : k < N
    · rw [fillB_get (by rw [hl]; omega) k (by rw [hl]; exact hk), LTn_get _ _ _ _ _ _ _ _ hk, LTn_get _ _ _ _ _ _ _ _ hk, Nat.mul_succ]
      split
      · rename_i h5; congr 1; exact (decide_eq_true (.inr (.inr (by omega)))).symm
      · rename_i h5
        congr 1
        rw [Bool.eq_iff_iff, decide_eq_true_iff, decide_eq_true_iff]
        constructor
        · rintro (h | h | h)
          · exact .inl h
          · exact .inr (.inl h)
          · exact .inr (.inr (by omega))
        · rintro (h | h | h)
          · exact .inl h
          · exact .inr (.inl h)
          · exact .inr (.inr (by omega))
    · rw [List.getElem?_eq_none (by rw [fillB_len (by rw [hl]; omega), hl]; omega), List.getElem?_eq_none (by rw [LTn_len]; omega)]
  · rw [Bool.not_true]
    refine (allB_iff (by rw [hl]; omega)).2 fun k h5 h6 => ?_
    rw [LTn_get _ _ _ _ _ _ _ _ (by omega)]
    congr 1
    exact decide_eq_false (by omega)
theorem nw_add {A1 n1 A2 n2 P bz N i hd e nx nx' : Nat} {X X' : XC} {tk tk' lt' : List Bool} {bs bs' wh wh' : List UInt8} (g : Lay A1 n1 A2 n2 P bz N) (h : NwI A1 n1 P bz N i X tk nx bs wh) (hi : i < n1) (hwl : wh'.length = n1) (hw : ∀ m, m < n1 → gt wh' m = if m < i + 1 then 1 else 0)
    (ha : AddP A1 bs (LTn A1 n1 A2 n2 P bz N i) [⟨P + bz * i, bz, true⟩] X tk nx false hd e bs' lt' X' tk' nx') : lt' = LTn A1 n1 A2 n2 P bz N (i + 1) ∧ NwI A1 n1 P bz N (i + 1) X' tk' nx' bs' wh' := by
  have h1 := g.le
  have h2 := g.PN
  have h3 : bz * (i + 1) ≤ bz * n1 := Nat.mul_le_mul_left bz hi
  rw [Nat.mul_succ] at h3
  have hN2 := g.N2
  have hb0 := g.b0
  have htl := h.tl
  have hcp : 1 ≤ cntF tk tk.length := cnt_pos (i := i) (by omega) (by rw [h.tk1 i hi]; simp)
  have hbok : ∀ b ∈ [(⟨P + bz * i, bz, true⟩ : Bf)], b.ok := fun b hb => by
    rw [List.mem_singleton] at hb; subst hb; exact ⟨by dsimp only; omega, by dsimp only; omega⟩
  have hok := add_ok hbok ha (by rw [h.bl]; exact h.ok)
  have hlen := add_len ha
  rw [hlen.2, h.bl] at hok
  have hlend : ∀ {e lt'}, LendP A1 (sizeE (tk.length : Nat)) (LTn A1 n1 A2 n2 P bz N i) [⟨P + bz * i, bz, true⟩] e lt' → e = 0 ∧ lt' = LTn A1 n1 A2 n2 P bz N (i + 1) := fun hl => by
    have h5 := hl.ok (fun j hj hin => by
      have hj0 : j = 0 := by simp at hj; omega
      subst hj0
      have e : gt [(⟨P + bz * i, bz, true⟩ : Bf)] 0 = ⟨P + bz * i, bz, true⟩ := rfl
      rw [e, htl]
      dsimp only
      refine ⟨by omega, ?_⟩
      show (turnE (LTn A1 n1 A2 n2 P bz N i) _ _ true 11).1 = 0
      rw [LTn_turn g hi])
    refine ⟨h5.1, h5.2.trans ?_⟩
    show ldE _ [_] 1 = _
    rw [ld1 rfl]
    dsimp only
    rw [LTn_turn g hi]
  cases ha with
  | dead h1 => cases h1
  | no _ _ h5 h6 =>
    have := h5.all (by simp) (by simp) (fun j hj => by
      have hj0 : j = 0 := by simp at hj; omega
      subst hj0
      exact ⟨by show 0 < bz; omega, by show P + bz * i + bz ≤ _; rw [h.bl]; omega⟩) (fun j hj => by simp at hj)
    rw [if_neg (by simp; omega)] at this
    exact absurd this h6
  | lent _ _ _ _ h5 h6 => exact absurd (hlend h5).1 h6
  | done _ _ da dk ba bk _ _ h5 h6 h7 =>
    obtain ⟨e1, e2⟩ := st_least (tk := tk) (i := i) (by omega) (fun m hm => by rw [h.tk1 m (by omega)]; simp [hm]) (by rw [h.tk1 i hi]; simp)
    rw [htl] at h7
    refine ⟨(hlend h5).2, hok, hlen.1.trans htl, ?_, ?_, ?_, hlen.2.trans h.bl, fun k hk => (h7.out g.n10 k hk).trans (h.z k hk), hwl, hw⟩
    · rw [List.length_append, h.xl]; rfl
    · intro y hy
      rcases List.mem_append.1 hy with hy | hy
      · exact h.ea y hy
      · rw [List.mem_singleton] at hy
        subst hy
        have e3 : gt (stE tk 1).1 0 = i := by rw [e1]; rfl
        show (stE tk 1).1 = [gt (stE tk 1).1 0] ∧ ([⟨P + bz * i, bz, true⟩] : List Bf) = [⟨P + bz * gt (stE tk 1).1 0, bz, true⟩]
        rw [e3]
        exact ⟨e1, rfl⟩
    · intro m hm
      show gt (stE tk 1).2.1 m = _
      rw [Bool.eq_iff_iff, e2 m (by omega), h.tk1 m hm, decide_eq_true_iff, decide_eq_true_iff]
      omega
theorem nw_start {A1 n1 A2 n2 P bz N : Nat} (g : Lay A1 n1 A2 n2 P bz N) : NwI A1 n1 P bz N 0 [] (List.replicate n1 false) 0 (List.replicate N 0) (List.replicate n1 0) := by
  have h1 := g.le
  have h2 := g.N2
  have h3 := g.n12
  refine ⟨rg0 g.n10 (by omega) (by omega) h2, List.length_replicate, rfl, (fun y h => absurd h List.not_mem_nil), fun m hm => ?_, List.length_replicate, fun _ _ => rfl, List.length_replicate, fun m hm => ?_⟩
  · unfold gt; rw [List.getD_eq_getElem?_getD, rep_get hm]; simp
  · unfold gt; rw [List.getD_eq_getElem?_getD, rep_get hm]; simp
theorem nw_end {A1 n1 P bz N nx : Nat} {X : XC} {tk : List Bool} {bs wh : List UInt8} (h : NwI A1 n1 P bz N n1 X tk nx bs wh) : RxI A1 n1 P bz N X tk nx 0 := ⟨h.ok, h.tl, h.xl, h.ea⟩

end Go.Proofs.Ytimaecgdahmmdaa


namespace Go.Proofs.Ytimaecgdahmmdaa
open Go Pw
set_option maxRecDepth 20000
set_option maxHeartbeats 4000000
set_option synthInstance.maxHeartbeats 400000
set_option synthInstance.maxSize 4000
set_option maxHeartbeats 8000000
instance {L R R1 R2 R3 R4 : List Assn} {n p bz r1 q1 m1 r2 q2 m2 A P bz2 nx ls l2 : Nat} {l1 : Int} {br : Bool} {X : XC} {tk : List Bool} {bs f wh : List UInt8} {lt : List Bool} {M : List (Nat × Nat)} [h1 : RowDel L n 81 [.pointer (some ⟨p, 0, none⟩), .int .i64 (bz : Nat), .pointer (some ⟨r1, 0, none⟩), .pointer (some ⟨q1, 0, none⟩), .map (some m1), .int .i64 (l1), .pointer (some ⟨r2, 0, none⟩), .pointer (some ⟨q2, 0, none⟩), .map (some m2), .int .i64 ((l2 : Nat))] R1] [h2 : RgAt R1 r2 p A X tk nx ls br R2] [h3 : MemAt R2 p bs lt R3] [h4 : Fam (mapJ u32W) R3 m2 (.u16, M) R4] [h5 : PoAt R4 q2 p P bz2 wh R] : FnR Try.prog 16 [.pointer (some ⟨n, 0, none⟩), str f] L (fun kk => ∃ nn N, (M = MX X ∧ bz2 = bz ∧ TxI A nn N X tk nx ls ∧ bs.length = N ∧ wh.length ≤ 256 ∧ 64 ≤ bz ∧ bz ≤ 2048 ∧ P ≤ 1048576 ∧ P + wh.length * bz ≤ 1048576 ∧ l2 ≤ 1125899906842624 ∧ f.length < 1099511627776) ∧ ∀ e bs' X' tk' nx' ls' br' wh' lo', SendP A P bz lt f bs X tk nx ls br wh l2 e bs' X' tk' nx' ls' br' wh' lo' → kk (.int .i64 (e : Nat)) (row 81 n [.pointer (some ⟨p, 0, none⟩), .int .i64 (bz : Nat), .pointer (some ⟨r1, 0, none⟩), .pointer (some ⟨q1, 0, none⟩), .map (some m1), .int .i64 (l1), .pointer (some ⟨r2, 0, none⟩), .pointer (some ⟨q2, 0, none⟩), .map (some m2), .int .i64 ((lo' : Nat))] :: rgA r2 p A X' tk' nx' ls' br' :: memA p bs' lt :: mapJ u32W m2 (.u16, MX X') :: poolV q2 p P bz wh' :: R)) :=
  ⟨fun kk h => by
    obtain ⟨nn, N, ⟨rfl, rfl, g1, g2, g3, g4, g5, g6, g7, g8, g9⟩, hh⟩ := h
    exact ⟨_, R, _, send_spec n p r1 q1 m1 r2 q2 m2 A nn P bz2 N nx ls l2 l1 br X tk bs f wh lt g1 g2 g3 g4 g5 g6 g7 g8 g9, .cons h1.h (.cons h2.h (.cons h3.h (.cons h4.h (.cons h5.h (.nil _))))), fun v L' hv => by obtain ⟨e, bs', X', tk', nx', ls', br', wh', lo', f1, f2, f3⟩ := hv; rw [f2, f3]; exact hh _ _ _ _ _ _ _ _ _ f1⟩⟩
theorem send_nil (f : List UInt8) :
    Sat Try.prog 16 [.pointer none, str f] [] (fun u L' => u = .int .i64 1 ∧ L' = []) := by
  all_goals
    refine Sat.enter Try.func16 rfl Try.ntmps16 rfl (fun c R => ?_)
    try simp only [List.cons_append, List.nil_append]
    repeat' (first
      | (exact Fini.of ⟨rfl, rfl⟩ (by repeat first | exact Imp.refl _ | (apply Imp.pull; focus ((repeat first | exact Del.head _ _ | apply Del.tail); done)) | apply Imp.drop))
      | refine T.pl 17 [5, 8] (.p 4 (.p 6 (.b2 0 (.p 1 (.p 2 (.b2 3 (.n 5 (.p 7 (.n 8 .fin))) 5 (.p 7 (.d 3 (.n 8 .fin)))))) 5 (.p 7 (.d 0 (.p 1 (.d 2 (.d 3 (.n 8 .fin))))))))) ?_
      | refine And.intro (fun hc => ?_) (fun hc => ?_)
      | refine And.intro ?_ ?_
      | intro b
      | refine stp ?_
      | refine TQ.finC ?_
      | refine TQ.finC2 ?_
      | refine TQ.finC3 ?_
      | refine ⟨fun hc => ?_, fun hc => ?_⟩
      | refine Ei.f ?_
      | refine ⟨?_, ?_⟩
      | intro b
      | exact absurd rfl hc
      | exact absurd hc (by decide)
      | omega
      | (dsimp only; omega)
      | fail)
instance {L : List Assn} {f : List UInt8} : FnR Try.prog 16 [.pointer none, str f] L (fun kk => kk (.int .i64 1) L) := ⟨fun kk h => ⟨[], L, _, send_nil f, .nil _, fun v L' hv => by rw [hv.1, hv.2]; exact h⟩⟩
instance {L : List Assn} {x y z : Int} {a b c : Nat} [hx : Nn x a] [hy : Nn y b] [hz : Nn z c] : FnR Try.prog 8 [.agg #[.int .i64 x, .int .i64 y, .int .i64 z]] L (fun kk => Vc (a ≤ 64 ∧ b ≤ 64 ∧ 0 < sizeE (a : Nat) ∧ 0 < sizeE (b : Nat) ∧ 64 ≤ c ∧ c ≤ 2048) (kk (.int .i64 (nszN a b c : Nat)) L)) := ⟨fun kk h => ⟨[], L, _, by rw [hx.h, hy.h, hz.h]; exact vsize_spec a b c h.l.1 h.l.2.1 h.l.2.2.1 h.l.2.2.2.1 h.l.2.2.2.2.1 h.l.2.2.2.2.2, .nil _, fun v L' hq => by rw [hq.1, hq.2]; exact h.r⟩⟩
theorem new_nil (x : Int) (v : Value) (a b z : Int) :
    Sat Try.prog 9 [.pointer none, .int .u32 x, .agg #[.int .i64 a, .int .i64 b, .int .i64 z]] [] (fun u L' => u = .tuple #[.pointer none, .int .i64 1] ∧ L' = []) := by
  all_goals
    refine Sat.enter Try.func9 rfl Try.ntmps9 rfl (fun c R => ?_)
    try simp only [List.cons_append, List.nil_append]
    repeat' (first
      | (exact Fini.of ⟨rfl, rfl⟩ (by repeat first | exact Imp.refl _ | (apply Imp.pull; focus ((repeat first | exact Del.head _ _ | apply Del.tail); done)) | apply Imp.drop))
      | refine T.pl 6 [] (.p 0 (.p 1 (.p 3 (.p 4 (.p 7 (.d 2 (.d 5 (.p 6 .fin)))))))) ?_
      | refine T.pl 26 [6] (.p 0 (.p 1 (.p 3 (.d 2 (.d 4 (.d 5 (.n 6 .fin))))))) ?_
      | refine And.intro (fun hc => ?_) (fun hc => ?_)
      | refine And.intro ?_ ?_
      | intro b
      | refine stp ?_
      | refine TQ.finC ?_
      | refine TQ.finC2 ?_
      | refine TQ.finC3 ?_
      | refine ⟨fun hc => ?_, fun hc => ?_⟩
      | refine Ei.f ?_
      | refine ⟨?_, ?_⟩
      | intro b
      | exact absurd rfl hc
      | exact absurd hc (by decide)
      | omega
      | (dsimp only; omega)
      | fail)
instance {L : List Assn} {x a b z : Int} : FnR Try.prog 9 [.pointer none, .int .u32 x, .agg #[.int .i64 a, .int .i64 b, .int .i64 z]] L (fun kk => kk (.tuple #[.pointer none, .int .i64 1]) L) := ⟨fun kk h => ⟨[], L, _, new_nil x (.bool true) a b z, .nil _, fun v L' hv => by rw [hv.1, hv.2]; exact h⟩⟩
structure NwS where
  (i : Nat) (X : XC) (tk : List Bool) (nx : Nat) (bs wh : List UInt8)
theorem nsz_pos {a b c : Nat} (h1 : 0 < a) (h2 : 64 ≤ c) : 0 < nszN a b c := by
  unfold nszN
  have : 1 * 1 ≤ (a + b) * c := Nat.mul_le_mul (by omega) (by omega)
  omega
/-- The card as New makes it. -/
structure NewP (A1 n1 A2 n2 P bz N : Nat) (X : XC) (tk : List Bool) (nx : Nat) (bs : List UInt8) : Prop where
  lay : Lay A1 n1 A2 n2 P bz N
  rx : RxI A1 n1 P bz N X tk nx 0
  bl : bs.length = N
  z : ∀ k, (k < A1 ∨ A1 + partN n1 ≤ k) → bs[k]? = (List.replicate N 0)[k]?
attribute [local irreducible] LTn LT1 rndN nszN writeE turnE
theorem new_spec (p A1 n1 A2 n2 P bz N : Nat) (g : Lay A1 n1 A2 n2 P bz N) :
    Sat Try.prog 9 [.pointer (some ⟨p, 0, none⟩), .int .u32 (A1 : Nat), .agg #[.int .i64 (n1 : Nat), .int .i64 (n2 : Nat), .int .i64 (bz : Nat)]] [memA p (List.replicate N 0) (List.replicate N false)] (fun u L' => ∃ n r1 q1 m1 r2 q2 m2 X tk nx bs wh, NewP A1 n1 A2 n2 P bz N X tk nx bs ∧ u = .tuple #[.pointer (some ⟨n, 0, none⟩), .int .i64 0] ∧ L' = [row 81 n [.pointer (some ⟨p, 0, none⟩), .int .i64 (bz : Nat), .pointer (some ⟨r1, 0, none⟩), .pointer (some ⟨q1, 0, none⟩), .map (some m1), .int .i64 (0), .pointer (some ⟨r2, 0, none⟩), .pointer (some ⟨q2, 0, none⟩), .map (some m2), .int .i64 (0)], rgA r1 p A1 X tk nx 0 false, rgA r2 p A2 [] (List.replicate n2 false) 0 0 false, memA p bs (LTn A1 n1 A2 n2 P bz N n1), mapJ u32W m1 (.u16, MX X), mapJ u32W m2 (.u16, MX []), poolV q1 p P bz wh, poolV q2 p (P + n1 * bz) bz (List.replicate n2 0)]) := by
  have hle := g.le
  have hN2 := g.N2
  have hPN := g.PN
  have h1 := g.n10
  have h2 := g.n12
  have h3 := g.n20
  have h4 := g.n22
  have h5 := g.s1
  have h6 := g.s2
  have hs1 : 0 < sizeE (n1 : Nat) := by omega
  have hs2 : 0 < sizeE (n2 : Nat) := by omega
  have hz1 := sizeE_le (n1 : Nat)
  have hz2 := sizeE_le (n2 : Nat)
  have hb0 := g.b0
  have hb1 := g.b1
  have eA := g.eA
  have eP := g.eP
  have hga : True := trivial
  have hgb : True := trivial
  have hgc : True := trivial
  have hgd : True := trivial
  have hge : True := trivial
  have hgf : True := trivial
  have hnz := nsz_pos (b := n2) g.n10 hb0
  have hmc : n1 * bz = bz * n1 := Nat.mul_comm _ _
  all_goals
    refine Sat.enter Try.func9 rfl Try.ntmps9 rfl (fun c R => ?_)
    try simp only [List.cons_append, List.nil_append]
    repeat' (first
      | (refine T.atB 1 ?_; refine T.unb 1 3 ?_)
      | (refine T.atR 10 ?_; clear hgc; rw [← eA])
      | (refine T.atR 11 ?_; first | (clear hga; rw [new1_write (by omega), new1_lend (by omega) (by omega)]; dsimp only) | (clear hgb; rw [new2_write (by omega) (by omega) (by omega), new2_lend (bz := bz) (P := P) (by omega) (by omega) (by omega) (by omega)]; dsimp only))
      | (refine T.atR 17 ?_; clear hgd; rw [← eP])
      | (refine T.atB 3 ?_; rename_i cb nb r1 m1 r2 m2 q1; obtain ⟨q2, hq2⟩ : ∃ x, x = b := ⟨_, rfl⟩; subst hq2; refine T.ent (Ent.imp (show Imp _ ([row 81 nb [.pointer (some ⟨p, 0, none⟩), .int .i64 (bz : Nat), .pointer (some ⟨r1, 0, none⟩), .pointer (some ⟨q1, 0, none⟩), .map (some m1), .int .i64 (0), .pointer (some ⟨r2, 0, none⟩), .pointer (some ⟨q2, 0, none⟩), .map (some m2), .int .i64 (0)], rgA r2 p A2 [] (List.replicate n2 false) 0 0 false, mapJ u32W m2 (.u16, MX []), poolV q2 p (P + n1 * bz) bz (List.replicate n2 0), row 26 cb [.int .i64 (n1 : Nat), .int .i64 (n2 : Nat), .int .i64 (bz : Nat)]] ++ ([rgA r1 p A1 (⟨0, [], List.replicate n1 false, 0, List.replicate N 0, List.replicate n1 0⟩ : NwS).X (⟨0, [], List.replicate n1 false, 0, List.replicate N 0, List.replicate n1 0⟩ : NwS).tk (⟨0, [], List.replicate n1 false, 0, List.replicate N 0, List.replicate n1 0⟩ : NwS).nx 0 false, memA p (⟨0, [], List.replicate n1 false, 0, List.replicate N 0, List.replicate n1 0⟩ : NwS).bs (LTn A1 n1 A2 n2 P bz N (⟨0, [], List.replicate n1 false, 0, List.replicate N 0, List.replicate n1 0⟩ : NwS).i), mapJ u32W m1 (.u16, MX (⟨0, [], List.replicate n1 false, 0, List.replicate N 0, List.replicate n1 0⟩ : NwS).X), poolV q1 p P bz (⟨0, [], List.replicate n1 false, 0, List.replicate N 0, List.replicate n1 0⟩ : NwS).wh] ++ R)) from (by repeat first | exact Imp.refl _ | (apply Imp.pull; focus ((repeat first | exact Del.head _ _ | apply Del.tail); done)) | apply Imp.drop))) ?_; simp only [List.cons_append, List.nil_append]; refine T.lpa 3 [(5, _), (8, _), (114, _)] (⟨0, [], List.replicate n1 false, 0, List.replicate N 0, List.replicate n1 0⟩ : NwS) (fun s => [(115, .int .i64 (s.i : Nat))]) (fun s => [rgA r1 p A1 s.X s.tk s.nx 0 false, memA p s.bs (LTn A1 n1 A2 n2 P bz N s.i), mapJ u32W m1 (.u16, MX s.X), poolV q1 p P bz s.wh]) (fun s => s.i ≤ n1 ∧ NwI A1 n1 P bz N s.i s.X s.tk s.nx s.bs s.wh) (fun s => n1 - s.i) ⟨Nat.zero_le _, nw_start g⟩ ?_; rintro ⟨i, X, tk, nx, bs, wh⟩ gg ⟨hi, hI⟩; dsimp only at hi hI; have hwl9 := hI.wl; have hPw : P + wh.length * bz ≤ 1048576 := (by rw [hwl9]; omega); dsimp only; simp only [List.cons_append, List.nil_append, appR])
      | (refine T.atR 26 ?_; rename_i a9 ge wh2; obtain ⟨ha9, he9, hwl2, hw2⟩ := nw_get hI (by assumption) b; subst ha9; subst he9; have hok9 : RgOk A1 bs.length X tk nx 0 := (by rw [hI.bl]; exact hI.ok); have hbi : bz * i ≤ bz * n1 := Nat.mul_le_mul_left _ hi; clear hge)
      | (refine TQ.atL ?_; rename_i hd3 e3 bs3 lt3 X3 tk3 nx3; obtain ⟨hl3, hI3⟩ := nw_add g hI (by assumption) hwl2 hw2 b; subst hl3; refine TQ.rd (⟨i + 1, X3, tk3, nx3, bs3, wh2⟩ : NwS) rfl (by repeat first | exact trivial | refine ⟨rfl, ?_⟩) ⟨by dsimp only; omega, hI3⟩ (by dsimp only; omega) (Ent.imp (by dsimp only; repeat first | exact Imp.refl _ | (apply Imp.pull; focus ((repeat first | exact Del.head _ _ | apply Del.tail); done)) | apply Imp.drop)))
      | (refine T.atR 28 ?_; clear hgf; obtain rfl : i = n1 := (by omega))
      | (refine finAt ?_; exact Fini.of ⟨nb, r1, q1, m1, r2, q2, m2, X, tk, nx, bs, wh, ⟨g, nw_end hI, hI.bl, hI.z⟩, rfl, rfl⟩ (by repeat first | exact Imp.refl _ | (apply Imp.pull; focus ((repeat first | exact Del.head _ _ | apply Del.tail); done)) | apply Imp.drop))
      | (refine finAt ?_; exfalso; omega)
      | (refine Vc.mk ⟨hs1, g.a16, by omega, by omega, hz1, by omega, by rw [new1_write (by omega)], by rw [new1_lend (by omega) (by omega)]⟩ ?_)
      | (refine Vc.mk ⟨hs2, g.b16, by omega, by omega, hz2, by omega, by rw [new2_write (by omega) (by omega) (by omega)], by rw [new2_lend (bz := bz) (P := P) (by omega) (by omega) (by omega) (by omega)]⟩ ?_)
      | (refine Vc.mk ⟨by omega, by omega, hs1, hs2, g.b0, g.b1⟩ ?_)
      | (refine Vc.mk ⟨rfl, hok9, by omega, by omega⟩ ?_)
      | exact hPw
      | (rw [List.length_replicate]; omega)
      | refine T.pl 6 [] (.p 0 (.p 1 (.p 3 (.p 4 (.p 7 (.d 2 (.d 5 (.p 6 .fin)))))))) ?_
      | refine T.pl 26 [6] (.p 0 (.p 1 (.p 3 (.d 2 (.d 4 (.d 5 (.n 6 .fin))))))) ?_
      | refine And.intro (fun hc => ?_) (fun hc => ?_)
      | refine And.intro ?_ ?_
      | intro b
      | refine stp ?_
      | refine TQ.finC ?_
      | refine TQ.finC2 ?_
      | refine TQ.finC3 ?_
      | refine ⟨fun hc => ?_, fun hc => ?_⟩
      | refine Ei.f ?_
      | refine ⟨?_, ?_⟩
      | intro b
      | exact absurd rfl hc
      | exact absurd hc (by decide)
      | omega
      | (dsimp only; omega)
      | fail)

end Go.Proofs.Ytimaecgdahmmdaa


namespace Go.Proofs.Ytimaecgdahmmdaa
open Go Pw
set_option maxRecDepth 20000
set_option maxHeartbeats 4000000
/-! What a device that keeps to the rules brings (plain law). -/
def brB (bs : List UInt8) (A n k h a : Nat) (s : List UInt8) : List UInt8 := putB (putB (putB bs a s) (A + partN n + 4 + 8 * (k % n)) (leB h 4 ++ leB s.length 4)) (A + partN n + 2) (leB ((k + 1) % 65536) 2)
theorem numE_put {bs cs : List UInt8} {a n x : Nat} (hx : x < 256 ^ n) (hn : a + n ≤ bs.length) (h : ∀ i, i < n → bs[a + i]? = (leB x n)[i]?) : (numE bs a n).1 = x := by
  rw [numE_eq (cs := leB x n) (b := 0) hn (by rw [leB_len]; omega) (fun i hi => by rw [Nat.zero_add]; exact h i hi)]
  exact numE_leB hx
section
variable {A n P bz N : Nat} {LT : List Bool} {bs s : List UInt8} {k h : Nat}
theorem br_w1 (g : Geo A n P bz N LT) (hb : bs.length = N) (hh : h < n) (hs : s.length ≤ bz) : writeE bs LT (P + bz * h) s true 12 = (0, putB bs (P + bz * h) s) := by
  have h1 := g.buf hh
  exact writeE_ok (by omega) ((allB_iff (by rw [g.lt]; omega)).2 fun j h2 h3 => g.bf j (by omega) (by omega))
theorem br_w2 (g : Geo A n P bz N LT) (hb : bs.length = N) {s8 : List UInt8} (h8 : s8.length = 8) : writeE bs LT (A + partN n + 4 + 8 * (k % n)) s8 true 12 = (0, putB bs (A + partN n + 4 + 8 * (k % n)) s8) := by
  have h1 := slotE_le g k
  have h2 := g.PA
  have h3 := g.PN
  unfold slotE at h1
  exact writeE_ok (by omega) ((allB_iff (by rw [g.lt]; omega)).2 fun j h4 h5 => g.us j (by omega) (by omega))
theorem br_w3 (g : Geo A n P bz N LT) (hb : bs.length = N) {s2 : List UInt8} (h2 : s2.length = 2) : writeE bs LT (A + partN n + 2) s2 true 12 = (0, putB bs (A + partN n + 2) s2) := by
  have h1 := g.sz
  have h3 := g.PA
  have h4 := g.PN
  exact writeE_ok (by omega) ((allB_iff (by rw [g.lt]; omega)).2 fun j h5 h6 => g.us j (by omega) (by omega))
theorem br_len (g : Geo A n P bz N LT) (hb : bs.length = N) (hh : h < n) (hs : s.length ≤ bz) : (brB bs A n k h (P + bz * h) s).length = N := by
  have h1 := g.buf hh
  have h2 := slotE_le g k
  have h3 := g.PA
  have h4 := g.PN
  have h5 := leB_len h 4
  have h6 := leB_len s.length 4
  have h7 := leB_len ((k + 1) % 65536) 2
  unfold slotE at h2
  unfold brB
  have e1 : (putB bs (P + bz * h) s).length = N := by rw [putB_len (by omega), hb]
  have e2 : (putB (putB bs (P + bz * h) s) (A + partN n + 4 + 8 * (k % n)) (leB h 4 ++ leB s.length 4)).length = N := by rw [putB_len (by rw [List.length_append]; omega), e1]
  rw [putB_len (by omega), e2]
theorem br_get (g : Geo A n P bz N LT) (hb : bs.length = N) (hh : h < n) (hs : s.length ≤ bz) (j : Nat) : (brB bs A n k h (P + bz * h) s)[j]? = if A + partN n + 2 ≤ j ∧ j < A + partN n + 4 then (leB ((k + 1) % 65536) 2)[j - (A + partN n + 2)]? else if slotE A n k ≤ j ∧ j < slotE A n k + 8 then (leB h 4 ++ leB s.length 4)[j - slotE A n k]? else if P + bz * h ≤ j ∧ j < P + bz * h + s.length then s[j - (P + bz * h)]? else bs[j]? := by
  have h1 := g.buf hh
  have h2 := slotE_le g k
  have h3 := g.PA
  have h4 := g.PN
  have h5 := leB_len h 4
  have h6 := leB_len s.length 4
  have h7 := leB_len ((k + 1) % 65536) 2
  have e1 : (putB bs (P + bz * h) s).length = N := by rw [putB_len (by omega), hb]
  unfold brB
  unfold slotE at h2 ⊢
  have e2 : (putB (putB bs (P + bz * h) s) (A + partN n + 4 + 8 * (k % n)) (leB h 4 ++ leB s.length 4)).length = N := by rw [putB_len (by rw [List.length_append]; omega), e1]
  rw [putB_get (by omega), putB_get (by rw [List.length_append]; omega), putB_get (by omega), h7, List.length_append, h5, h6]
theorem br_ix (g : Geo A n P bz N LT) (hb : bs.length = N) (hh : h < n) (hs : s.length ≤ bz) : ixE (brB bs A n k h (P + bz * h) s) A n = (k + 1) % 65536 := by
  have h1 := g.sz
  have h3 := g.PA
  have h4 := g.PN
  unfold ixE
  refine numE_put (cs := bs) (by show _ < 65536; omega) (by rw [br_len g hb hh hs]; omega) fun i hi => ?_
  rw [br_get g hb hh hs, if_pos (by omega), Nat.add_sub_cancel_left]
theorem br_ent (g : Geo A n P bz N LT) (hb : bs.length = N) (hh : h < n) (hs : s.length ≤ bz) : entE (brB bs A n k h (P + bz * h) s) A n k = (h, s.length) := by
  have h1 := slotE_le g k
  have h3 := g.PA
  have h4 := g.PN
  have h5 := g.n2
  have h6 := g.buf hh
  have h7 := g.N2
  have l1 := leB_len h 4
  have l2 := leB_len s.length 4
  have hm : A + partN n + 4 ≤ slotE A n k := by unfold slotE; omega
  unfold entE
  refine Prod.ext ?_ ?_
  · refine numE_put (cs := bs) (by show _ < 4294967296; omega) (by rw [br_len g hb hh hs]; omega) fun i hi => ?_
    rw [br_get g hb hh hs, if_neg (by omega), if_pos (by omega), Nat.add_sub_cancel_left, List.getElem?_append_left (by omega)]
  · refine numE_put (cs := bs) (by show _ < 4294967296; omega) (by rw [br_len g hb hh hs]; omega) fun i hi => ?_
    rw [br_get g hb hh hs, if_neg (by omega), if_pos (by omega), show slotE A n k + 4 + i - slotE A n k = 4 + i by omega, List.getElem?_append_right (by omega), l1, Nat.add_sub_cancel_left]
theorem br_ent_ne (g : Geo A n P bz N LT) (hb : bs.length = N) (hh : h < n) (hs : s.length ≤ bz) {l : Nat} (hl : l % n ≠ k % n) : entE (brB bs A n k h (P + bz * h) s) A n l = entE bs A n l := by
  have h1 := slotE_le g k
  have h2 := slotE_le g l
  have h3 := g.PA
  have h4 := g.PN
  have h6 := g.buf hh
  have hm : A + partN n + 4 ≤ slotE A n l := by unfold slotE; omega
  have hne : slotE A n l + 8 ≤ slotE A n k ∨ slotE A n k + 8 ≤ slotE A n l := by unfold slotE; omega
  have hlen := br_len (k := k) g hb hh hs
  unfold entE
  refine Prod.ext ?_ ?_
  · show (numE (brB bs A n k h (P + bz * h) s) (slotE A n l) 4).1 = (numE bs (slotE A n l) 4).1
    refine congrArg Prod.fst (numE_eq (cs := bs) (b := slotE A n l) (by rw [hlen]; omega) (by rw [hb]; omega) fun i hi => ?_)
    rw [br_get g hb hh hs, if_neg (by omega), if_neg (by omega), if_neg (by omega)]
  · show (numE (brB bs A n k h (P + bz * h) s) (slotE A n l + 4) 4).1 = (numE bs (slotE A n l + 4) 4).1
    refine congrArg Prod.fst (numE_eq (cs := bs) (b := slotE A n l + 4) (by rw [hlen]; omega) (by rw [hb]; omega) fun i hi => ?_)
    rw [br_get g hb hh hs, if_neg (by omega), if_neg (by omega), if_neg (by omega)]
theorem br_fr (g : Geo A n P bz N LT) (hb : bs.length = N) (hh : h < n) (hs : s.length ≤ bz) : frO (brB bs A n k h (P + bz * h) s) P bz (h, s.length) = frmE s := by
  have h3 := g.PA
  have h6 := g.buf hh
  have hlen := br_len (k := k) g hb hh hs
  unfold frO
  dsimp only
  rw [readE_nat (by omega)]
  congr 1
  apply List.ext_getElem?
  intro i
  rw [List.getElem?_take]
  split
  · have h1 := slotE_le g k
    have h2 := g.sz
    rw [List.getElem?_drop, br_get g hb hh hs, if_neg (by omega), if_neg (by omega), if_pos (by omega), Nat.add_sub_cancel_left]
  · rw [List.getElem?_eq_none (by omega)]
theorem br_out (g : Geo A n P bz N LT) (hb : bs.length = N) (hh : h < n) (hs : s.length ≤ bz) {j : Nat} (hj : j < A + partN n ∨ (A + sizeE (n : Nat) ≤ j ∧ (j < P + bz * h ∨ P + bz * h + bz ≤ j))) : (brB bs A n k h (P + bz * h) s)[j]? = bs[j]? := by
  have h1 := slotE_le g k
  have h2 := g.sz
  have h3 := g.PA
  have h6 := g.buf hh
  rw [br_get g hb hh hs, if_neg (by omega), if_neg (by omega), if_neg (by omega)]
theorem br_fr_ne (g : Geo A n P bz N LT) (hb : bs.length = N) (hh : h < n) (hs : s.length ≤ bz) {q : Nat × Nat} (h1 : q.1 < n) (h2 : q.2 ≤ bz) (hne : q.1 ≠ h) : frO (brB bs A n k h (P + bz * h) s) P bz q = frO bs P bz q := by
  have h3 := g.PA
  have h6 := g.buf h1
  have hlen := br_len (k := k) g hb hh hs
  have hd : P + bz * q.1 + bz ≤ P + bz * h ∨ P + bz * h + bz ≤ P + bz * q.1 := by
    rcases Nat.lt_or_gt_of_ne hne with h7 | h7
    · have := Nat.mul_le_mul_left bz h7; rw [Nat.mul_succ] at this; omega
    · have := Nat.mul_le_mul_left bz h7; rw [Nat.mul_succ] at this; omega
  unfold frO
  rw [readE_nat (by omega), readE_nat (by omega), take_eq fun i hi => br_out g hb hh hs (by omega)]
end
/-! What Send does to a card whose sending ring is empty. -/
theorem txt_nil' {bs : List UInt8} {lt : List Bool} {A P bz : Nat} {br : Bool} {tk0 tk : List Bool} {ls0 ls : Nat} {wh0 wh : List UInt8} {X0 X : XC} (hX0 : X0 = []) (h : TxT bs lt A P bz br X0 tk0 ls0 wh0 X tk ls wh) : X = [] ∧ tk = tk0 ∧ ls = ls0 ∧ wh = wh0 := by
  induction h with
  | refl => exact ⟨hX0, rfl, rfl, rfl⟩
  | step _ hp _ ih =>
    obtain ⟨e1, _, _, _⟩ := ih
    rw [e1] at hp
    cases hp with
    | done c _ _ _ hat => exact absurd hat (by simp [atJ])
theorem txt_nil {bs : List UInt8} {lt : List Bool} {A P bz : Nat} {br : Bool} {tk0 tk : List Bool} {ls0 ls : Nat} {wh0 wh : List UInt8} {X : XC} (h : TxT bs lt A P bz br [] tk0 ls0 wh0 X tk ls wh) : X = [] ∧ tk = tk0 ∧ ls = ls0 ∧ wh = wh0 := txt_nil' rfl h
structure TxG (A n Q bz N : Nat) (LT : List Bool) : Prop where
  n0 : 0 < n
  n2 : n ≤ 64
  sz : sizeE (n : Nat) = partN n + 6 + 8 * n
  AQ : A + sizeE (n : Nat) ≤ Q
  QN : Q + bz ≤ N
  N2 : N ≤ 1048576
  lt : LT.length = N
  av : ∀ k, A ≤ k → k < A + partN n → LT[k]? = some false
  bf : ∀ k, Q ≤ k → k < Q + bz → LT[k]? = some false
  us : ∀ k, A + partN n ≤ k → k < A + sizeE (n : Nat) → LT[k]? = some true
/-- A card that has just sent something. -/
structure Sent (A n Q bz N : Nat) (LT : List Bool) (f bs : List UInt8) (nx : Nat) (bs' : List UInt8) (X' : XC) : Prop where
  x : ∃ da dk ba bk, X' = [(0, (⟨[0], [⟨Q, 12 + f.length, false⟩], da, dk, ba, bk⟩ : Ch))]
  len : bs'.length = N
  keep : KeepP LT bs bs'
  ix : (numE bs' (A + 16 * n + 2) 2).1 = (nx + 1) % 65536
  hd : (numE bs' (A + 16 * n + 4 + 2 * (nx % n)) 2).1 = 0
  rd : (readE bs' Q ((12 + f.length : Nat) : Int)).1 = List.replicate 12 0 ++ f
  out : ∀ k, (k < A ∨ A + partN n ≤ k) → (k < Q ∨ Q + bz ≤ k) → bs'[k]? = bs[k]?
theorem rep_gt {n : Nat} {m : Nat} : gt (List.replicate n false) m = false := by
  unfold gt; rw [List.getD_eq_getElem?_getD, List.getElem?_replicate]; split <;> rfl
theorem sent_core {A n Q bz N : Nat} {LT : List Bool} {f bs : List UInt8} {nx ls : Nat} {hd e nx' : Nat} {bs' : List UInt8} {lt' : List Bool} {X' : XC} {tk' : List Bool} (g : TxG A n Q bz N LT) (hb : bs.length = N) (h1 : 14 ≤ f.length) (h2 : 12 + f.length ≤ bz) (hnx : nx < 65536)
    (i : TxI A n N [] (List.replicate n false) nx ls) (h : AddP A (writeE bs LT Q (List.replicate 12 0 ++ f) false 11).2 LT [⟨Q, 12 + f.length, false⟩] [] (List.replicate n false) nx false hd e bs' lt' X' tk' nx') : e = 0 ∧ nx' = (nx + 1) % 65536 ∧ tk' = (List.replicate n false).set 0 true ∧ Sent A n Q bz N LT f bs nx bs' X' := by
  have g1 := g.AQ
  have g2 := g.QN
  have g3 := g.N2
  have g4 := g.n0
  have hfl : (List.replicate 12 (0 : UInt8) ++ f).length = 12 + f.length := by rw [List.length_append, List.length_replicate]
  have hw : writeE bs LT Q (List.replicate 12 0 ++ f) false 11 = (0, putB bs Q (List.replicate 12 0 ++ f)) := writeE_ok (by omega) ((allB_iff (by rw [g.lt]; omega)).2 fun j h3 h4 => g.bf j h3 (by omega))
  rw [hw] at h
  dsimp only at h
  have hbl : (putB bs Q (List.replicate 12 0 ++ f)).length = N := by rw [putB_len (by omega), hb]
  have hbo : ∀ b ∈ [(⟨Q, 12 + f.length, false⟩ : Bf)], b.inn = false := fun b hb => by rw [List.mem_singleton] at hb; subst hb; rfl
  have hrl : (List.replicate n false).length = n := List.length_replicate
  have hst := st_least (tk := List.replicate n false) (i := 0) (by rw [hrl]; exact g4) (fun m hm => absurd hm (Nat.not_lt_zero _)) rep_gt
  have hnxt : nxtF (List.replicate n false) 0 = 0 := (nxt_at (tk := List.replicate n false) (i := 0) (j := 0) (Nat.le_refl _) (by rw [hrl]; exact g4) rep_gt (fun m _ hm => absurd hm (Nat.not_lt_zero _))).symm
  cases h with
  | dead h => cases h
  | no _ _ h5 h6 =>
    have := h5.all (by simp) (by simp) (fun j hj => by
      have hj0 : j = 0 := by simp at hj; omega
      subst hj0
      exact ⟨by show 0 < 12 + f.length; omega, by show Q + (12 + f.length) ≤ _; rw [hbl]; omega⟩) (fun j hj => by simp at hj)
    rw [hrl, cntF_rep n n (Nat.le_refl _), if_neg (by simp; omega)] at this
    exact absurd this h6
  | lent _ _ _ _ h5 h6 => exact absurd (h5.out hbo).1 h6
  | done _ _ da dk ba bk _ h5 h6 h7 h8 =>
    have elt := (h6.out hbo).2
    subst elt
    have e3 : gt (stE (List.replicate n false) 1).1 0 = 0 := by rw [hst.1]; rfl
    rw [hrl] at h8
    have hpl : 16 * n + 6 + 2 * n ≤ partN n := by unfold partN; omega
    have hm := Nat.mod_lt nx g4
    have hsz := g.sz
    have ho : ∀ k, (k < A ∨ A + partN n ≤ k) → bs'[k]? = (putB bs Q (List.replicate 12 0 ++ f))[k]? := h8.out g4
    have hl' : bs'.length = N := h7.len.trans hbl
    obtain ⟨b0, b1, h9, h10, h11⟩ := h8
    have hb0 : b0.length = N := h9.k.len.trans hbl
    have l1 := leB_len (gt (stE (List.replicate n false) 1).1 0) 2
    have l2 := leB_len ((nx + 1) % 65536) 2
    have l1' : (leB (gt (stE (List.replicate n false) [(⟨Q, 12 + f.length, false⟩ : Bf)].length).1 0) 2).length = 2 := leB_len _ 2
    rw [writeE_ok (by omega) ((allB_iff (by rw [g.lt]; omega)).2 fun j h3 h4 => g.av j (by omega) (by omega))] at h10
    dsimp only at h10
    have hb1 : b1.length = N := by rw [h10, putB_len (by omega), hb0]
    rw [writeE_ok (by omega) ((allB_iff (by rw [g.lt]; omega)).2 fun j h3 h4 => g.av j (by omega) (by omega))] at h11
    dsimp only at h11
    refine ⟨rfl, rfl, ?_, ⟨⟨da, dk, ba, bk, ?_⟩, hl', ?_, ?_, ?_, ?_, ?_⟩⟩
    · show (List.replicate n false).set (nxtF (List.replicate n false) _) true = _
      exact congrArg (fun x => (List.replicate n false).set x true) hnxt
    · show [] ++ [(gt (stE (List.replicate n false) 1).1 0, (⟨(stE (List.replicate n false) 1).1, _, da, dk, ba, bk⟩ : Ch))] = _
      rw [e3, hst.1, List.nil_append]
    · refine ⟨by rw [hl', hb], fun k hk => (h7.keep k hk).trans ?_⟩
      rw [putB_get (by omega), if_neg]
      rintro ⟨h12, h13⟩
      have := g.bf k h12 (by omega)
      rw [hk] at this
      cases this
    · rw [h11]
      refine numE_put (cs := bs) (by show _ < 65536; omega) (by rw [putB_len (by omega)]; omega) fun j hj => ?_
      rw [putB_get (by omega), if_pos (by omega), Nat.add_sub_cancel_left]
    · rw [h11]
      refine numE_put (cs := bs) (by decide) (by rw [putB_len (by omega)]; omega) fun j hj => ?_
      rw [putB_get (by omega), if_neg (by omega), h10, putB_get (by omega), if_pos (by omega), Nat.add_sub_cancel_left]
      exact congrArg (fun x => (leB x 2)[j]?) e3
    · rw [readE_nat (by omega)]
      dsimp only
      apply List.ext_getElem?
      intro j
      rw [List.getElem?_take]
      split
      · rw [List.getElem?_drop, ho _ (by omega), putB_get (by omega), if_pos (by omega), Nat.add_sub_cancel_left]
      · rw [List.getElem?_eq_none (by omega)]
    · intro k hk hk2
      rw [ho k hk, putB_get (by omega), if_neg (by omega)]
theorem get0 {P sz a e : Nat} {wh wh' : List UInt8} (h : GetP P sz wh a e wh') (h0 : 0 < wh.length) (hw : gt wh 0 = 0) : a = P ∧ e = 0 ∧ wh' = wh.set 0 1 := by
  cases h with
  | full h1 => exact absurd hw (h1 0 h0)
  | got j h1 h2 h3 =>
    have : j = 0 := by
      rcases Nat.eq_zero_or_pos j with h4 | h4
      · exact h4
      · exact absurd hw (h3 0 h4)
    subst this
    exact ⟨by omega, rfl, rfl⟩
/-- Send, with nothing under way. -/
theorem send_nil_ring {A n Q bz N : Nat} {LT : List Bool} {f bs : List UInt8} {nx ls : Nat} {wh : List UInt8} {lo e : Nat} {bs' : List UInt8} {X' : XC} {tk' : List Bool} {nx' ls' : Nat} {br' : Bool} {wh' : List UInt8} {lo' : Nat} (g : TxG A n Q bz N LT) (hb : bs.length = N) (h1 : 14 ≤ f.length) (h2 : 12 + f.length ≤ bz) (hz : bz ≤ 1526) (i : TxI A n N [] (List.replicate n false) nx ls) (hix : ixE bs A n = ls) (h0 : 0 < wh.length) (hw : gt wh 0 = 0)
    (h : SendP A Q bz LT f bs [] (List.replicate n false) nx ls false wh lo e bs' X' tk' nx' ls' br' wh' lo') : e = 0 ∧ nx' = (nx + 1) % 65536 ∧ tk' = (List.replicate n false).set 0 true ∧ ls' = ls ∧ br' = false ∧ wh' = wh.set 0 1 ∧ lo' = lo ∧ Sent A n Q bz N LT f bs nx bs' X' := by
  have hnx := i.ok.nx
  have hrl : (List.replicate n false).length = n := List.length_replicate
  have poll0 : ∀ {hd sz e : Nat} {X2 : XC} {tk2 : List Bool} {ls2 : Nat} {br2 : Bool} {lt2 : List Bool}, PollP bs LT A [] (List.replicate n false) ls false hd sz false e X2 tk2 ls2 br2 lt2 → e = 0 ∧ X2 = [] ∧ tk2 = List.replicate n false ∧ ls2 = ls ∧ br2 = false := fun hp => by
    cases hp with
    | dead h => cases h
    | none => exact ⟨rfl, rfl, rfl, rfl, rfl⟩
    | breaks _ h => rw [hrl] at h; exact absurd hix h
  cases h with
  | short h => omega
  | long _ h => omega
  | poll ht hp he =>
    obtain ⟨rfl, rfl, rfl, rfl⟩ := txt_nil ht
    exact absurd (poll0 hp).1 he
  | full ht hp hg he =>
    obtain ⟨rfl, rfl, rfl, rfl⟩ := txt_nil ht
    exact absurd (get0 hg h0 hw).2.1 he
  | bad ht hp hg ha he =>
    obtain ⟨rfl, rfl, rfl, rfl⟩ := txt_nil ht
    obtain ⟨_, rfl, rfl, rfl, rfl⟩ := poll0 hp
    obtain ⟨rfl, _, rfl⟩ := get0 hg h0 hw
    exact absurd (sent_core g hb h1 h2 hnx i ha).1 he
  | ok _ _ ht hp hg ha =>
    obtain ⟨rfl, rfl, rfl, rfl⟩ := txt_nil ht
    obtain ⟨_, rfl, rfl, rfl, rfl⟩ := poll0 hp
    obtain ⟨rfl, _, rfl⟩ := get0 hg h0 hw
    obtain ⟨_, e2, e3, e4⟩ := sent_core g hb h1 h2 hnx i ha
    exact ⟨rfl, e2, e3, rfl, rfl, rfl, rfl, e4⟩
theorem Lay.txg {A1 n1 A2 n2 P bz N : Nat} (g : Lay A1 n1 A2 n2 P bz N) : TxG A2 n2 (P + n1 * bz) bz N (LTn A1 n1 A2 n2 P bz N n1) := by
  have h1 := g.le
  have h2 := g.PN
  have h3 : n1 * bz = bz * n1 := Nat.mul_comm _ _
  have h4 := g.s2
  refine ⟨g.n20, g.n22, g.s2, by omega, by omega, g.N2, LTn_len _ _ _ _ _ _ _ _, fun k h5 h6 => ?_, fun k h5 h6 => ?_, fun k h5 h6 => ?_⟩
  · rw [LTn_get _ _ _ _ _ _ _ _ (by omega)]; congr 1; exact decide_eq_false (by omega)
  · rw [LTn_get _ _ _ _ _ _ _ _ (by omega)]; congr 1; exact decide_eq_false (by omega)
  · rw [LTn_get _ _ _ _ _ _ _ _ (by omega)]; congr 1; exact decide_eq_true (by omega)

end Go.Proofs.Ytimaecgdahmmdaa

