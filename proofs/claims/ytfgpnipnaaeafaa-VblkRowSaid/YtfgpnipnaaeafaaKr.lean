/- Lemmas for the proofs of this seat: no statement of the seat is claimed here. -/
import Derived.Test.YtfgpnipnaaeafaaKq
import Derived.Test.YtfgpnipnaaeafaaKp
set_option linter.all false

namespace Go.Proofs.Ytfgpnipnaaeafaa
open Go Pw
set_option maxRecDepth 20000
set_option maxHeartbeats 4000000
set_option synthInstance.maxHeartbeats 400000
set_option synthInstance.maxSize 4000
set_option maxHeartbeats 8000000

/-- What is written into a ring's descriptors. -/
structure DescP (at_ n : Nat) (lt : List Bool) (bs bs2 : List UInt8) : Prop where
  k : KeepP lt bs bs2
  out : ∀ k : Nat, (k < at_ ∨ at_ + 16 * n ≤ k) → bs2[k]? = bs[k]?
theorem DescP.rfl {at_ n : Nat} {lt : List Bool} {bs : List UInt8} : DescP at_ n lt bs bs := ⟨.rfl, fun _ _ => Eq.refl _⟩
theorem DescP.trans {at_ n : Nat} {lt : List Bool} {a b c : List UInt8} (h : DescP at_ n lt a b) (k : DescP at_ n lt b c) : DescP at_ n lt a c := ⟨h.k.trans k.k, fun i hi => (k.out i hi).trans (h.out i hi)⟩
theorem writeE_out (bs : List UInt8) (lt : List Bool) (a : Nat) (s : List UInt8) (x : Bool) (e k : Nat) (h : k < a ∨ a + s.length ≤ k) : (writeE bs lt a s x e).2[k]? = bs[k]? := by
  unfold writeE
  split
  · split
    · show (putB bs a s)[k]? = _
      unfold putB
      rcases h with h | h
      · rw [List.getElem?_append_left (by simp; omega), List.getElem?_append_left (by simp; omega), List.getElem?_take, if_pos h]
      · rw [List.getElem?_append_right (by simp; omega), List.getElem?_drop]
        congr 1
        simp; omega
    · rfl
  · rfl
theorem wr4_desc {at_ n d : Nat} {bs : List UInt8} {lt : List Bool} {x y f nx : Nat} (h : d < n) : DescP at_ n lt bs (wr4 bs lt (at_ + 16 * d) x y f nx) := by
  refine ⟨wr4_keep _ _ _ _ _ _ _, fun k hk => ?_⟩
  have h8 := leB_len x 8
  have h4 := leB_len y 4
  have h2 := leB_len f 2
  have h2' := leB_len nx 2
  unfold wr4
  rw [writeE_out _ _ _ _ _ _ _ (by omega), writeE_out _ _ _ _ _ _ _ (by omega), writeE_out _ _ _ _ _ _ _ (by omega), writeE_out _ _ _ _ _ _ _ (by omega)]
/-- What stands in a descriptor, if the descriptors are the driver's. -/
def HdQ (at_ n : Nat) (lt : List Bool) (N a d0 : Nat) (b : List UInt8) : Prop := at_ + 16 * n ≤ N → (∀ k, at_ ≤ k → k < at_ + 16 * n → lt[k]? = some false) → ∀ j, j < 8 → b[at_ + 16 * d0 + j]? = (leB a 8)[j]?
theorem hq_first {at_ n d0 : Nat} {lt : List Bool} {b : List UInt8} {x y f nx N : Nat} (hb : b.length = N) (h : d0 < n) : HdQ at_ n lt N x d0 (wr4 b lt (at_ + 16 * d0) x y f nx) := fun h1 h2 j hj => by
  have h8 := leB_len x 8
  have h4 := leB_len y 4
  have h2f := leB_len f 2
  have h2' := leB_len nx 2
  have hl : at_ + 16 * n ≤ lt.length := by
    have h3 := h2 (at_ + 16 * n - 1) (by omega) (by omega)
    have h5 := (List.getElem?_eq_some_iff.1 h3).1
    omega
  have hw : writeE b lt (at_ + 16 * d0) (leB x 8) false 11 = (0, putB b (at_ + 16 * d0) (leB x 8)) := by
    unfold writeE
    rw [if_pos (by omega), if_pos ((allB_iff (by omega)).2 fun k h3 h4 => h2 k (by omega) (by omega))]
  unfold wr4
  rw [writeE_out _ _ _ _ _ _ _ (by omega), writeE_out _ _ _ _ _ _ _ (by omega), writeE_out _ _ _ _ _ _ _ (by omega), hw]
  show (putB b (at_ + 16 * d0) (leB x 8))[at_ + 16 * d0 + j]? = _
  unfold putB
  rw [List.getElem?_append_left (by rw [List.length_append, List.length_take]; omega), List.getElem?_append_right (by rw [List.length_take]; omega), List.length_take]
  congr 1
  omega
theorem hq_other {at_ n d d0 N a : Nat} {lt : List Bool} {b : List UInt8} {x y f nx : Nat} (hd : d ≠ d0) (h : HdQ at_ n lt N a d0 b) : HdQ at_ n lt N a d0 (wr4 b lt (at_ + 16 * d) x y f nx) := fun h1 h2 j hj => by
  have h8 := leB_len x 8
  have h4 := leB_len y 4
  have h2f := leB_len f 2
  have h2' := leB_len nx 2
  have hne : d < d0 ∨ d0 < d := by omega
  unfold wr4
  rw [writeE_out _ _ _ _ _ _ _ (by omega), writeE_out _ _ _ _ _ _ _ (by omega), writeE_out _ _ _ _ _ _ _ (by omega), writeE_out _ _ _ _ _ _ _ (by omega)]
  exact h h1 h2 j hj
theorem hq_out {at_ n d0 N a e A : Nat} {lt : List Bool} {b s : List UInt8} {x : Bool} (h0 : d0 < n) (hA : at_ + 16 * n ≤ A) (h : HdQ at_ n lt N a d0 b) : HdQ at_ n lt N a d0 (writeE b lt A s x e).2 := fun h1 h2 j hj => by
  rw [writeE_out _ _ _ _ _ _ _ (by omega)]
  exact h h1 h2 j hj
/-- The entry of the available part, and its index. -/
structure AvP (at_ n nx hd nx' : Nat) (lt : List Bool) (bs bs2 : List UInt8) : Prop where
  h : ∃ b0 b1, DescP at_ n lt bs b0 ∧ b1 = (writeE b0 lt (at_ + 16 * n + 4 + 2 * (nx % n)) (leB hd 2) false 11).2 ∧ bs2 = (writeE b1 lt (at_ + 16 * n + 2) (leB nx' 2) false 11).2
theorem wE_ad {bs : List UInt8} {lt : List Bool} {a b e : Nat} {s : List UInt8} {x : Bool} (h : a = b) : (writeE bs lt a s x e).2 = (writeE bs lt b s x e).2 := by rw [h]
/-- What Add answers, and leaves. -/
inductive AddP (at_ : Nat) (bs : List UInt8) (lt : List Bool) (l : List Bf) (X : XC) (tk : List Bool) (nx : Nat) (br : Bool) : Nat → Nat → List UInt8 → List Bool → XC → List Bool → Nat → Prop
  | dead : br = true → AddP at_ bs lt l X tk nx br 0 20 bs lt X tk nx
  | no (e : Nat) : br = false → MayP l bs.length (cntF tk tk.length) e → e ≠ 0 → AddP at_ bs lt l X tk nx br 0 e bs lt X tk nx
  | lent (e : Nat) (lt' : List Bool) : br = false → MayP l bs.length (cntF tk tk.length) 0 → LendP at_ (sizeE (tk.length : Nat)) lt l e lt' → e ≠ 0 → AddP at_ bs lt l X tk nx br 0 e bs lt' X tk nx
  | done (lt' : List Bool) (bs' : List UInt8) (da : Option Addr) (dk : Nat) (ba : Option Addr) (bk : Nat) : br = false → MayP l bs.length (cntF tk tk.length) 0 → LendP at_ (sizeE (tk.length : Nat)) lt l 0 lt' → KeepP lt' bs bs' → AvP at_ tk.length nx (gt (stE tk l.length).1 0) ((nx + 1) % 65536) lt' bs bs' → HdQ at_ tk.length lt' bs.length (gt l 0).at_ (gt (stE tk l.length).1 0) bs' → AddP at_ bs lt l X tk nx br (gt (stE tk l.length).1 0) 0 bs' lt' (X ++ [(gt (stE tk l.length).1 0, ⟨(stE tk l.length).1, l, da, dk, ba, bk⟩)]) (stE tk l.length).2.1 ((nx + 1) % 65536)
theorem Imp.pushD {X : XC} {n m : Nat} {d : List Nat} {l : List Bf} {da ba : Option Addr} {dk bk : Nat} {L L1 L2 R L' : List Assn} (hm : d.length = m) (h1 : Del (Pw.sl 39 (0 + 1) (.slice da m dk) m (d.map u16W)) L L1) (h2 : Del (Pw.sl 90 (2 + 1) (.slice ba l.length bk) l.length (l.flatMap bufV)) L1 L2) (h3 : Del (famC X) L2 R) (i : Imp R L') : Imp L (famC (X ++ [(n, ⟨d, l, da, dk, ba, bk⟩)]) :: L') := by
  subst hm
  exact Imp.pushC (c := ⟨d, l, da, dk, ba, bk⟩) h1 h2 h3 i
theorem sizeE_le (n : Int) : sizeE n ≤ 10000 := by
  unfold sizeE
  split
  · omega
  · rename_i h
    have := partN_le (n := (szI n).toNat) (by omega)
    omega
attribute [local irreducible] bkE partN writeE sizeE cntF
instance (priority := 1300) {L R : List Assn} {r at_ n nx ls : Nat} {vp : Value} {br : Bool} {R1 R2 : List Assn} {vt : Value} {p nb kb m k i : Nat} {x y z : Int} {w : Bool} {a ab : Option Addr} {d : List Nat} {bf : Bf} {bs : List UInt8} {lt : List Bool} [h1 : RowDel L r 84 [.pointer (some ⟨p, 0, none⟩), .int .u32 (at_ : Nat), .int .i64 (n : Nat), vp, vt, .int .u16 (nx : Nat), .int .u16 (ls : Nat), .bool br] R1] [h2 : MemAt R1 p bs lt R2] [h3 : SlAt R2 (.slice a m k) 39 (0 + 1) m (d.map u16W) R] [hx : Nn x i] [hy : InvL bufV [.int .u32 y, .int .u32 z, .bool w] bf] : FnR Try.prog 52 [.pointer (some ⟨r, 0, none⟩), .agg #[.slice a m k, .slice ab nb kb], .int .i64 x, .agg #[.int .u32 y, .int .u32 z, .bool w]] L (fun kk => Vc (m = d.length ∧ i < d.length ∧ (∀ x ∈ d, x < 256) ∧ (∀ x ∈ d, x < n) ∧ at_ ≤ 1048576 ∧ d.length ≤ 8 ∧ bf.ok) (∀ bs2, DescP at_ n lt bs bs2 ∧ bs2 = wrE bs lt at_ d i bf → kk (.tuple #[]) (row 84 r [.pointer (some ⟨p, 0, none⟩), .int .u32 (at_ : Nat), .int .i64 (n : Nat), vp, vt, .int .u16 (nx : Nat), .int .u16 (ls : Nat), .bool br] :: memA p bs2 lt :: Pw.sl 39 (0 + 1) (.slice a m k) m (d.map u16W) :: R))) :=
  ⟨fun kk h => by
    obtain ⟨⟨rfl, h4, h5, hN, h6, h7, h8⟩, h9⟩ := h
    rw [hx.h, ← hy.h]
    exact ⟨_, R, _, write_spec r p at_ n nx ls k i nb kb vp vt br a ab d bf bs lt h4 h5 h6 h7 h8, .cons h1.h (.cons h2.h (.cons h3.h (.nil _))), fun v L' hv => by rw [hv.1, hv.2]; exact h9 _ ⟨wr4_desc (gt_all' hN h4), rfl⟩⟩⟩
theorem hq_wr {at_ n N i : Nat} {lt : List Bool} {d : List Nat} {l : List Bf} {b : List UInt8} (hnd : d.Nodup) (hdl : d.length = l.length) (hdN : ∀ x ∈ d, x < n) (hi : i < l.length) (hb : b.length = N) (hq : 0 < i → HdQ at_ n lt N (gt l 0).at_ (gt d 0) b) : HdQ at_ n lt N (gt l 0).at_ (gt d 0) (wrE b lt at_ d i (gt l i)) := by
  unfold wrE
  rcases Nat.eq_zero_or_pos i with h | h
  · subst h
    exact hq_first hb (hdN _ (gt_mem (by omega)))
  · refine hq_other (fun e => ?_) (hq h)
    have h1 := gt_get (show i < d.length by omega)
    have h2 := gt_get (show 0 < d.length by omega)
    have e1 := (List.getElem?_eq_some_iff.1 h1).2
    have e2 := (List.getElem?_eq_some_iff.1 h2).2
    exact absurd (e2.trans (e.symm.trans e1.symm)) (List.pairwise_iff_getElem.1 hnd 0 i (by omega) (by omega) h)
theorem add_spec (r p at_ nx ls mp tc k : Nat) (br : Bool) (a ta : Option Addr) (X : XC) (l : List Bf) (tk : List Bool) (bs : List UInt8) (lt : List Bool) (hok : ∀ b ∈ l, b.ok) (hln : l.length < 9223372036854775808) (hK : ∀ y ∈ X, gt tk y.1 = true) (ht : 0 < tk.length) (ht2 : tk.length ≤ 256) (ha : at_ ≤ 1048576) (hnx : nx < 65536) (hbs : bs.length ≤ 1048576) :
    Sat Try.prog 32 [.pointer (some ⟨r, 0, none⟩), .slice a l.length k] [row 84 r [.pointer (some ⟨p, 0, none⟩), .int .u32 at_, .int .i64 (tk.length : Nat), .map (some mp), .slice ta tk.length tc, .int .u16 nx, .int .u16 ls, .bool br], memA p bs lt, mapJ chV mp (.u16, X), Pw.sl 4 (0 + 1) (.slice ta tk.length tc) tk.length ((tk).map Value.bool), famC X, Pw.sl 90 (2 + 1) (.slice a l.length k) l.length (l.flatMap bufV)] (fun u L' => ∃ hd e bs' lt' X' tk' nx', AddP at_ bs lt l X tk nx br hd e bs' lt' X' tk' nx' ∧ u = .tuple #[.int .u16 (hd : Nat), .int .i64 (e : Nat)] ∧ L' = [row 84 r [.pointer (some ⟨p, 0, none⟩), .int .u32 at_, .int .i64 (tk.length : Nat), .map (some mp), .slice ta tk.length tc, .int .u16 (nx' : Nat), .int .u16 ls, .bool br], memA p bs' lt', mapJ chV mp (.u16, X'), Pw.sl 4 (0 + 1) (.slice ta tk.length tc) tk.length ((tk').map Value.bool), famC X', Pw.sl 90 (2 + 1) (.slice a l.length k) l.length (l.flatMap bufV)]) := by
  have hmd := Nat.mod_lt nx ht
  have hgo : True := trivial
  have hsz : sizeE (tk.length : Nat) ≤ 10000 := sizeE_le _
  have hK9 : ∀ n, n ∈ X.map (·.1) → gt tk n = true := fun n hn => by
    obtain ⟨y, h1, rfl⟩ := List.mem_map.1 hn
    exact hK y h1
  have hg5 : True := trivial
  have hg6 : True := trivial
  have hg8 : True := trivial
  have hg9 : True := trivial
  have hg11 : True := trivial
  have hg12 : True := trivial
  have hg13 : True := trivial
  have hg17 : True := trivial
  have hav : ∀ {l2 : List Bool} {b3 b4 : List UInt8}, gt (stE tk l.length).1 0 < tk.length → (∃ b0, DescP at_ tk.length l2 bs b0 ∧ HdQ at_ tk.length l2 bs.length (gt l 0).at_ (gt (stE tk l.length).1 0) b0 ∧ b3 = (writeE b0 l2 (at_ + 16 * tk.length + 4 + 2 * (nx % tk.length)) (leB (gt (stE tk l.length).1 0) 2) false 11).2) → b4 = (writeE b3 l2 (at_ + 16 * tk.length + 2) (leB ((nx + 1) % 65536) 2) false 11).2 → AvP at_ tk.length nx (gt (stE tk l.length).1 0) ((nx + 1) % 65536) l2 bs b4 ∧ HdQ at_ tk.length l2 bs.length (gt l 0).at_ (gt (stE tk l.length).1 0) b4 := fun h0 ⟨b0, h1, hq, h2⟩ h3 => ⟨⟨b0, _, h1, h2, h3⟩, by subst h3; subst h2; exact hq_out h0 (by omega) (hq_out h0 (by omega) hq)⟩
  have hak : ∀ {l2 : List Bool} {b4 : List UInt8}, AvP at_ tk.length nx (gt (stE tk l.length).1 0) ((nx + 1) % 65536) l2 bs b4 → KeepP l2 bs b4 := fun ⟨b0, b1, h1, h2, h3⟩ => by subst h3; subst h2; exact (h1.k.trans (writeE_keep _ _ _ _ _)).trans (writeE_keep _ _ _ _ _)
  all_goals
    refine Sat.enter Try.func32 rfl Try.ntmps32 rfl (fun c R => ?_)
    try simp only [List.cons_append, List.nil_append]
    repeat' (first
      | (refine T.atR 5 ?_; clear hg5; have hbr := ‹br = false›; subst hbr)
      | (refine T.atR 6 ?_; clear hg6; rename_i e1; have hmp := b)
      | (refine T.atR 8 ?_; clear hg8; obtain rfl : e1 = 0 := (by omega); obtain ⟨hl1, hl8, hin, hcn⟩ := hmp.ok rfl)
      | (refine T.atR 9 ?_; clear hg9; rename_i e2 l2; have hlp := b)
      | (refine T.atR 11 ?_; clear hg11; obtain rfl : e2 = 0 := (by omega))
      | (refine T.atR 12 ?_; clear hg12; rename_i a2 k2; obtain ⟨b8, hb8⟩ : ∃ x, x = b := ⟨_, rfl⟩; subst hb8)
      | (refine T.atR 13 ?_; clear hg13; rename_i ci; obtain ⟨bx, hbx⟩ : ∃ x, x = b := ⟨_, rfl⟩; subst hbx; refine T.ent (Ent.imp (imp_st (by repeat first | exact Del.head _ _ | apply Del.tail) (by repeat first | exact Del.head _ _ | apply Del.tail))) ?_)
      | (refine T.atB 1 ?_; refine T.lpa 1 [(0, _), (1, _), (8, _), (9, _), (39, _)] ((0, none, 0) : Nat × Option Addr × Nat) (fun s => [(40, .int .i64 (s.1 : Nat))]) (fun s => [row 118 b8 [.slice s.2.1 s.1 s.2.2, .slice a2 l.length k2], row 3 ci [.int .i64 (stE tk s.1).2.2], Pw.sl 4 (0 + 1) (.slice ta tk.length tc) tk.length ((stE tk s.1).2.1.map Value.bool), Pw.sl 39 (0 + 1) (.slice s.2.1 s.1 s.2.2) s.1 ((stE tk s.1).1.map u16W)]) (fun s => s.1 ≤ l.length) (fun s => l.length - s.1) (Nat.zero_le _) ?_; rintro ⟨j, a9, k9⟩ g hj; dsimp only at hj; have hst : StOk tk j := st_ok j (by omega); have hfr := fun h : j < l.length => st_free hst (by omega); have htl := hst.tl; have hdl := hst.dl; simp only [List.cons_append, List.nil_append, appR])
      | (refine TQ.atL ?_; rename_i a7; refine TQ.rd ((j + 1, a7, b) : Nat × Option Addr × Nat) rfl ⟨rfl, rfl, rfl, rfl, rfl, rfl, trivial⟩ (Nat.succ_le_of_lt (by assumption)) (by dsimp only; omega) (Ent.imp (by repeat first | exact Imp.refl _ | (apply Imp.pull; focus ((repeat first | exact Del.head _ _ | apply Del.tail); done)) | apply Imp.drop)))
      | (refine T.atR 17 ?_; clear hg17; obtain rfl : j = l.length := (by omega); have hd256 : ∀ x ∈ (stE tk l.length).1, x < 256 := fun x hx => (by have h1 := (hst.dd x hx).1; have h2 := hst.x1; omega); have hdN : ∀ x ∈ (stE tk l.length).1, x < tk.length := fun x hx => (by have h1 := (hst.dd x hx).1; have h2 := hst.x1; omega); have h0 : gt (stE tk l.length).1 0 < 256 := hd256 _ (gt_mem (by omega)); have hf0 := (hst.dd _ (gt_mem (show 0 < (stE tk l.length).1.length by omega))).2)
      | (refine T.atB 3 ?_; refine T.lpa 3 [(0, _), (1, _), (8, _), (50, _), (51, _)] ((0, bs) : Nat × List UInt8) (fun s => [(52, .int .i64 (s.1 : Nat))]) (fun s => [memA p s.2 l2]) (fun s => s.1 ≤ l.length ∧ DescP at_ tk.length l2 bs s.2 ∧ s.2.length = bs.length ∧ (0 < s.1 → HdQ at_ tk.length l2 bs.length (gt l 0).at_ (gt (stE tk l.length).1 0) s.2)) (fun s => l.length - s.1) ⟨Nat.zero_le _, .rfl, rfl, fun h => absurd h (Nat.lt_irrefl _)⟩ ?_; rintro ⟨i, b1⟩ g ⟨hi, hb1, hbl1, hq1⟩; dsimp only at hi hb1 hbl1 hq1; have hbo := fun h : i < l.length => gt_all' hok h; simp only [List.cons_append, List.nil_append, appR])
      | (refine TQ.atL ?_; have hb2 := b; rename_i b2; refine TQ.rd ((i + 1, b2) : Nat × List UInt8) rfl ⟨rfl, rfl, rfl, rfl, rfl, rfl, trivial⟩ ⟨Nat.succ_le_of_lt (by assumption), hb1.trans hb2.1, (by rw [hb2.2]; exact (wr4_len _ _ _ _ _ _ _).trans hbl1), fun _ => (by rw [hb2.2]; exact hq_wr hst.nd hdl hdN (by assumption) hbl1 hq1)⟩ (by dsimp only; omega) (Ent.imp (by repeat first | exact Imp.refl _ | (apply Imp.pull; focus ((repeat first | exact Del.head _ _ | apply Del.tail); done)) | apply Imp.drop)))
      | (refine T.atSR 24 ?_; refine T.cutR 24 (fun _ : List UInt8 => [(0, .pointer (some ⟨r, 0, none⟩)), (12, .int .u16 (gt (stE tk l.length).1 0 : Nat))]) (fun b => row 84 r [.pointer (some ⟨p, 0, none⟩), .int .u32 at_, .int .i64 (tk.length : Nat), .map (some mp), .slice ta tk.length tc, .int .u16 nx, .int .u16 ls, .bool false] :: memA p b l2 :: mapJ chV mp (.u16, X ++ [(gt (stE tk l.length).1 0, ⟨(stE tk l.length).1, l, a9, k9, a2, k2⟩)]) :: Pw.sl 4 (0 + 1) (.slice ta tk.length tc) tk.length (((stE tk l.length).2.1).map Value.bool) :: famC X :: Pw.sl 90 (2 + 1) (.slice a l.length k) l.length (l.flatMap bufV) :: Pw.sl 39 (0 + 1) (.slice a9 l.length k9) l.length ((stE tk l.length).1.map u16W) :: Pw.sl 90 (2 + 1) (.slice a2 l.length k2) l.length (l.flatMap bufV) :: R) (fun b => ∃ b0, DescP at_ tk.length l2 bs b0 ∧ HdQ at_ tk.length l2 bs.length (gt l 0).at_ (gt (stE tk l.length).1 0) b0 ∧ b = (writeE b0 l2 (at_ + 16 * tk.length + 4 + 2 * (nx % tk.length)) (leB (gt (stE tk l.length).1 0) 2) false 11).2) ?_ (fun b3 g hb3 => ?_))
      | (refine T.atSR 26 ?_; refine T.cutR 26 (fun _ : List UInt8 => [(0, .pointer (some ⟨r, 0, none⟩)), (12, .int .u16 (gt (stE tk l.length).1 0 : Nat))]) (fun b => row 84 r [.pointer (some ⟨p, 0, none⟩), .int .u32 at_, .int .i64 (tk.length : Nat), .map (some mp), .slice ta tk.length tc, .int .u16 ((nx + 1) % 65536 : Nat), .int .u16 ls, .bool false] :: memA p b l2 :: mapJ chV mp (.u16, X ++ [(gt (stE tk l.length).1 0, ⟨(stE tk l.length).1, l, a9, k9, a2, k2⟩)]) :: Pw.sl 4 (0 + 1) (.slice ta tk.length tc) tk.length (((stE tk l.length).2.1).map Value.bool) :: famC X :: Pw.sl 90 (2 + 1) (.slice a l.length k) l.length (l.flatMap bufV) :: Pw.sl 39 (0 + 1) (.slice a9 l.length k9) l.length ((stE tk l.length).1.map u16W) :: Pw.sl 90 (2 + 1) (.slice a2 l.length k2) l.length (l.flatMap bufV) :: R) (fun b => AvP at_ tk.length nx (gt (stE tk l.length).1 0) ((nx + 1) % 65536) l2 bs b ∧ HdQ at_ tk.length l2 bs.length (gt l 0).at_ (gt (stE tk l.length).1 0) b) ?_ (fun b4 g hb4 => ?_))
      | (refine TQ.atC ?_; refine TQ.cn (_ : List UInt8) rfl ⟨rfl, rfl, trivial⟩ (by first | exact hav (hdN _ (gt_mem (by omega))) hb3 rfl | exact ⟨_, hb1, hq1 (by omega), rfl⟩) (Ent.imp (by repeat first | exact Imp.refl _ | (apply Imp.pull; focus ((repeat first | exact Del.head _ _ | apply Del.tail); done)) | apply Imp.drop)))
      | (refine finAt ?_; have hbr := ‹br = true›; subst hbr; exact Fini.of ⟨_, _, _, _, _, _, _, .dead rfl, rfl, rfl⟩ (by repeat first | exact Imp.refl _ | (apply Imp.pull; focus ((repeat first | exact Del.head _ _ | apply Del.tail); done)) | apply Imp.drop))
      | (refine finAt ?_; have hlp_ := hlp; exact Fini.of ⟨_, _, _, _, _, _, _, .lent e2 l2 rfl hmp hlp (by omega), rfl, rfl⟩ (by repeat first | exact Imp.refl _ | (apply Imp.pull; focus ((repeat first | exact Del.head _ _ | apply Del.tail); done)) | apply Imp.drop))
      | (refine finAt ?_; exact Fini.of ⟨_, _, _, _, _, _, _, .no e1 rfl hmp (by omega), rfl, rfl⟩ (by repeat first | exact Imp.refl _ | (apply Imp.pull; focus ((repeat first | exact Del.head _ _ | apply Del.tail); done)) | apply Imp.drop))
      | (refine finAt ?_; exact Fini.of ⟨_, _, _, _, _, _, _, .done l2 b4 a9 k9 a2 k2 rfl hmp hlp (hak hb4.1) hb4.1 hb4.2, rfl, rfl⟩ (by repeat first | exact Imp.refl _ | (apply Imp.pull; focus ((repeat first | exact Del.head _ _ | apply Del.tail); done)) | (refine Imp.pushD hdl (by repeat first | exact Del.head _ _ | apply Del.tail) (by repeat first | exact Del.head _ _ | apply Del.tail) (by repeat first | exact Del.head _ _ | apply Del.tail) ?_) | apply Imp.drop))
      | exact hok
      | exact hd256
      | exact hdN
      | exact hin
      | exact hfr (by assumption)
      | exact hbo (by assumption)
      | exact fun h => absurd ((hK9 _ h).symm.trans hf0) Bool.noConfusion
      | refine T.pl 15 [3, 4, 5, 7] (.p 2 (.p 0 (.b2 1 (.n 3 (.n 4 (.n 5 (.d 6 (.n 7 .fin))))) 3 (.b2 1 (.n 4 (.n 5 (.d 6 (.n 7 .fin)))) 4 (.d 1 (.n 5 (.d 6 (.n 7 .fin)))))))) ?_
      | refine T.pk 23 [6] (.p 0 (.p 1 (.p 4 (.g 5 (.d 2 (.g 3 (.n 6 .fin))))))) ?_
      | refine T.pk 24 [5, 21] (.p 0 (.p 1 (.p 4 (.p 7 (.p 8 (.p 12 (.p 13 (.p 20 (.p 2 (.g 3 (.p 9 (.g 10 (.p 11 (.p 14 (.g 15 (.p 16 (.p 17 (.p 18 (.n 5 (.p 6 (.p 19 (.n 21 .fin)))))))))))))))))))))) ?_
      | refine T.pk 26 [5, 11] (.p 0 (.p 1 (.p 4 (.p 7 (.p 8 (.p 2 (.g 3 (.p 9 (.g 10 (.n 5 (.p 6 (.n 11 .fin)))))))))))) ?_
      | refine And.intro (fun hc => ?_) (fun hc => ?_)
      | refine And.intro ?_ ?_
      | intro b
      | refine stk ?_
      | refine stp ?_
      | refine TQ.finC ?_
      | refine TQ.finC2 ?_
      | refine TQ.finC3 ?_
      | refine ⟨fun hc => ?_, fun hc => ?_⟩
      | refine Ei.f ?_
      | refine ⟨?_, ?_⟩
      | intro b
      | exact absurd rfl hc
      | exact absurd hc (by decide)
      | omega
      | (dsimp only; omega)
      | fail)

end Go.Proofs.Ytfgpnipnaaeafaa

