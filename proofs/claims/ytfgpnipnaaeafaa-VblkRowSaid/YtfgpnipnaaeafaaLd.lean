/- Lemmas for the proofs of this seat: no statement of the seat is claimed here. -/
import Derived.Test.YtfgpnipnaaeafaaKs
import Derived.Test.YtfgpnipnaaeafaaLa
set_option linter.all false

namespace Go.Proofs.Ytfgpnipnaaeafaa
open Go Pw
set_option maxRecDepth 20000
theorem number64_ok (p b at_ : Nat) (v : Value) (bs : List UInt8) (ss : List Spn) (n : Nat) (hbs : bs.length ≤ 1048576) (hlen : ss.length ≤ 1048576) (hb : ∀ s ∈ ss, s.1 + s.2 ≤ 1048576) (ha : at_ < 4294967296) (h : at_ + n ≤ bs.length) (h0 : 0 < n) (hw : 8 * n ≤ 64) :
    Sat Try.prog 42 [.pointer (some ⟨p, 0, none⟩), .int .u32 at_, .int .i64 n] [row 70 p [.slice (some ⟨b, 0, none⟩) bs.length bs.length, v], row 5 b (bs.map byteV), sl 110 2 v ss.length (spans ss)] (fun u L' => u = .tuple #[.int .u64 (leN ((bs.drop at_).take n) : Nat), .int .i64 0] ∧ L' = [row 70 p [.slice (some ⟨b, 0, none⟩) bs.length bs.length, v], row 5 b (bs.map byteV), sl 110 2 v ss.length (spans ss)]) := by
  refine Sat.enter Try.func42 rfl Try.ntmps42 rfl (fun c R => ?_)
  try simp only [List.cons_append, List.nil_append]
  refine T.seq ?_
  refine T.reg ?_
  refine TO.p (DP.as (by conv => lhs; whnf)) ?_
  refine TO.p (DP.as (by conv => lhs; whnf)) ?_
  refine TO.nil ?_
  refine TQ.nn ?_
  refine T.seq ?_
  refine T.reg ?_
  refine TO.p (DP.mv (by conv => lhs; whnf)) ?_
  refine TO.p (DP.mv (by conv => lhs; whnf)) ?_
  refine TO.p (DP.mv (by conv => lhs; whnf)) ?_
  refine TO.n (N.callF (part_pos p bs.length at_ n b v hbs ha h h0) Try.call41 ⟨rfl, rfl, rfl, trivial⟩ (by (repeat first | exact Pick.nil _ | (apply Pick.cons; focus ((repeat first | exact Del.head _ _ | apply Del.tail); done))))) ?_
  rintro u17 _ ⟨_, ⟨rfl, rfl⟩, rfl⟩
  try simp only [List.cons_append, List.nil_append]
  refine TO.p (DP.mv (by conv => lhs; whnf)) ?_
  refine TO.p (DP.ex rfl rfl) ?_
  refine TO.p (DP.ex rfl rfl) ?_
  refine TO.p (DP.as (by conv => lhs; whnf)) ?_
  refine TO.p (DP.as (by conv => lhs; whnf)) ?_
  refine TO.nil ?_
  refine TQ.nn ?_
  refine T.seq ?_
  refine T.reg ?_
  refine TO.p (DP.as (by conv => lhs; whnf)) ?_
  refine TO.nil ?_
  refine TQ.nn ?_
  refine T.seq ?_
  refine T.seq ?_
  refine T.reg ?_
  refine TO.p (DP.mv (by conv => lhs; whnf)) ?_
  refine TO.p (DP.lenS rfl Try.underlying59) ?_
  refine TO.p (DP.mv (by conv => lhs; whnf)) ?_
  refine TO.nil ?_
  refine TQ.nn ?_
  refine T.block ?_
  refine T.loop (S := Nat) 0 (fun i => [(9, .int .i64 (0 : Nat)), (10, .int .u64 (leN (((bs.drop at_).take n).take i) : Nat)), (20, .slice (some ⟨b, at_, none⟩) n n), (21, .int .i64 (n : Nat)), (22, .int .i64 (i : Nat))]) (fun i => row 70 p [.slice (some ⟨b, 0, none⟩) bs.length bs.length, v] :: row 5 b (bs.map byteV) :: sl 110 2 v ss.length (spans ss) :: R) (fun i => i ≤ n) (fun i => n - i) ?_ ?_ ?_ ?_
  · (repeat first | exact trivial | refine ⟨rfl, ?_⟩)
  · (first | trivial | omega | simp)
  · exact Ent.refl _ _
  rintro i g hI
  refine T.seq ?_
  refine T.reg ?_
  refine TO.p (DP.lss rfl rfl) ?_
  refine TO.nil ?_
  refine TQ.nn ?_
  refine T.seq ?_
  refine T.condD rfl (fun hc0 => ?_) (fun hc0 => ?_)
  · have hln := len_part h
    obtain ⟨x, hx⟩ := get_some (l := (bs.drop at_).take n) (i := i) (by omega)
    have hnx := leN_succ (w := 64) hx (by omega)
    have hlt := leN_lt (((bs.drop at_).take n).take i)
    have hll : (((bs.drop at_).take n).take i).length = i := by rw [List.length_take, hln]; omega
    rw [hll] at hlt
    have hpw : (256 : Nat) ^ i ≤ 2 ^ 64 := by rw [show (256 : Nat) = 2 ^ 8 from rfl, ← Nat.pow_mul]; exact Nat.pow_le_pow_right (by omega) (by omega)
    have hrx : (bs.map byteV)[at_ + i * (0 + 1)]? = some (byteV x) := by rw [List.getElem?_map]; rw [List.getElem?_take, List.getElem?_drop] at hx; rw [if_pos (by omega)] at hx; simp [hx]
    have hxl := x.toNat_lt
    refine T.skip ?_
    refine TQ.nn ?_
    refine T.seq ?_
    refine T.block ?_
    refine T.seq ?_
    refine T.reg ?_
    refine TO.p (DP.mv (by conv => lhs; whnf)) ?_
    refine TO.p (DP.ias rfl rfl Try.underlying59 sz5 (by omega)) ?_
    refine TO.d (D.ldR (v := byteV x) rfl pl5 (by (repeat first | exact LMem.head _ _ | apply LMem.tail)) hrx) ?_
    refine TO.p (DP.as (by conv => lhs; whnf)) ?_
    refine TO.p (DP.as (by conv => lhs; whnf)) ?_
    refine TO.nil ?_
    refine TQ.nn ?_
    refine T.reg ?_
    refine TO.p (DP.mv (by conv => lhs; whnf)) ?_
    refine TO.p (DP.mv (by conv => lhs; whnf)) ?_
    refine TO.p (DP.cv (a := x.toNat) rfl is5 Try.underlying63 (l := 18446744073709551616) rfl (by omega)) ?_
    refine TO.p (DP.mv (by conv => lhs; whnf)) ?_
    refine TO.p (DP.mul (a := 8) rfl rfl (l := 9223372036854775808) rfl (by omega)) ?_
    refine TO.p (DP.shl (b := 8 * i) rfl rfl rfl (l := 2 ^ 64) rfl) ?_
    refine TO.p (DP.bor rfl rfl (l := 2 ^ 64) rfl (by omega) (Nat.mod_lt _ (by decide))) ?_
    refine TO.p (DP.as (by conv => lhs; whnf)) ?_
    refine TO.nil ?_
    refine TQ.bn ?_
    refine TQ.nn ?_
    refine T.reg ?_
    refine TO.p (DP.add (b := 1) rfl rfl (l := 9223372036854775808) rfl (by omega)) ?_
    refine TO.p (DP.mv (by conv => lhs; whnf)) ?_
    refine TO.nil ?_
    refine TQ.round (i + 1) rfl ?_ ?_ ?_ ?_
    · (repeat first | exact trivial | refine ⟨rfl, ?_⟩ | refine ⟨by rw [hnx] <;> rfl, ?_⟩)
    · omega
    · omega
    · exact Ent.refl _ _
  · obtain rfl : n = i := by omega
    refine T.exit ?_
    refine TQ.ne ?_
    refine TQ.le ?_
    refine TQ.be ?_
    refine TQ.nn ?_
    refine T.seq ?_
    refine T.reg ?_
    refine TO.p (DP.mv (by conv => lhs; whnf)) ?_
    refine TO.p (DP.mv (by conv => lhs; whnf)) ?_
    refine TO.p (DP.as (by conv => lhs; whnf)) ?_
    refine TO.p (DP.as (by conv => lhs; whnf)) ?_
    refine TO.nil ?_
    refine TQ.nn ?_
    refine T.ret ?_
    refine TQ.ret (vs := [.int .u64 (leN ((bs.drop at_).take n) : Nat), .int .i64 0]) (L' := [_, _, _]) rfl ⟨by rw [List.take_take, Nat.min_self]; rfl, rfl, rfl⟩ ⟨rfl, rfl⟩ (by (refine Ent.imp ?_; repeat first | exact Imp.refl _ | exact Imp.nil _ | (apply Imp.pull; focus ((repeat first | exact Del.head _ _ | apply Del.tail); done)) | (apply Imp.row; focus ((repeat first | exact Del.head _ _ | apply Del.tail); done)) | apply Imp.drop))


theorem number64_out (p b at_ : Nat) (v : Value) (bs : List UInt8) (ss : List Spn) (n : Nat) (hbs : bs.length ≤ 1048576) (hlen : ss.length ≤ 1048576) (hb : ∀ s ∈ ss, s.1 + s.2 ≤ 1048576) (ha : at_ < 4294967296) (hm : n < 9223372036854775808) (h : bs.length < at_ + n) :
    Sat Try.prog 42 [.pointer (some ⟨p, 0, none⟩), .int .u32 at_, .int .i64 n] [row 70 p [.slice (some ⟨b, 0, none⟩) bs.length bs.length, v], row 5 b (bs.map byteV), sl 110 2 v ss.length (spans ss)] (fun u L' => u = .tuple #[.int .u64 (0 : Nat), .int .i64 10] ∧ L' = [row 70 p [.slice (some ⟨b, 0, none⟩) bs.length bs.length, v], row 5 b (bs.map byteV), sl 110 2 v ss.length (spans ss)]) := by
  refine Sat.enter Try.func42 rfl Try.ntmps42 rfl (fun c R => ?_)
  try simp only [List.cons_append, List.nil_append]
  refine T.seq ?_
  refine T.reg ?_
  refine TO.p (DP.as (by conv => lhs; whnf)) ?_
  refine TO.p (DP.as (by conv => lhs; whnf)) ?_
  refine TO.nil ?_
  refine TQ.nn ?_
  refine T.seq ?_
  refine T.reg ?_
  refine TO.p (DP.mv (by conv => lhs; whnf)) ?_
  refine TO.p (DP.mv (by conv => lhs; whnf)) ?_
  refine TO.p (DP.mv (by conv => lhs; whnf)) ?_
  refine TO.n (N.callF (part_out p bs.length at_ n b v hbs ha hm h) Try.call41 ⟨rfl, rfl, rfl, trivial⟩ (by (repeat first | exact Pick.nil _ | (apply Pick.cons; focus ((repeat first | exact Del.head _ _ | apply Del.tail); done))))) ?_
  rintro u17 _ ⟨_, ⟨rfl, rfl⟩, rfl⟩
  try simp only [List.cons_append, List.nil_append]
  refine TO.p (DP.mv (by conv => lhs; whnf)) ?_
  refine TO.p (DP.ex rfl rfl) ?_
  refine TO.p (DP.ex rfl rfl) ?_
  refine TO.p (DP.as (by conv => lhs; whnf)) ?_
  refine TO.p (DP.as (by conv => lhs; whnf)) ?_
  refine TO.nil ?_
  refine TQ.nn ?_
  refine T.seq ?_
  refine T.reg ?_
  refine TO.p (DP.as (by conv => lhs; whnf)) ?_
  refine TO.nil ?_
  refine TQ.nn ?_
  refine T.seq ?_
  refine T.seq ?_
  refine T.reg ?_
  refine TO.p (DP.mv (by conv => lhs; whnf)) ?_
  refine TO.p (DP.lenS rfl Try.underlying59) ?_
  refine TO.p (DP.mv (by conv => lhs; whnf)) ?_
  refine TO.nil ?_
  refine TQ.nn ?_
  refine T.block ?_
  refine T.loop (S := Unit) () (fun _ => [(9, .int .i64 10), (10, .int .u64 (0 : Nat)), (21, .int .i64 (0 : Nat)), (22, .int .i64 (0 : Nat))]) (fun _ => row 70 p [.slice (some ⟨b, 0, none⟩) bs.length bs.length, v] :: row 5 b (bs.map byteV) :: sl 110 2 v ss.length (spans ss) :: R) (fun _ => True) (fun _ => 0) ?_ ?_ ?_ ?_
  · (repeat first | exact trivial | refine ⟨rfl, ?_⟩)
  · (first | trivial | omega | simp)
  · exact Ent.refl _ _
  rintro _ g hI
  refine T.seq ?_
  refine T.reg ?_
  refine TO.p (DP.lss (a := 0) (b := 0) rfl rfl) ?_
  refine TO.nil ?_
  refine TQ.nn ?_
  refine T.seq ?_
  refine T.condD rfl (fun hc0 => ?_) (fun hc0 => ?_)
  · exact absurd hc0 (by omega)
  · refine T.exit ?_
    refine TQ.ne ?_
    refine TQ.le ?_
    refine TQ.be ?_
    refine TQ.nn ?_
    refine T.seq ?_
    refine T.reg ?_
    refine TO.p (DP.mv (by conv => lhs; whnf)) ?_
    refine TO.p (DP.mv (by conv => lhs; whnf)) ?_
    refine TO.p (DP.as (by conv => lhs; whnf)) ?_
    refine TO.p (DP.as (by conv => lhs; whnf)) ?_
    refine TO.nil ?_
    refine TQ.nn ?_
    refine T.ret ?_
    refine TQ.ret (vs := [.int .u64 (0 : Nat), .int .i64 10]) (L' := [_, _, _]) rfl ⟨rfl, rfl, rfl⟩ ⟨rfl, rfl⟩ (by (refine Ent.imp ?_; repeat first | exact Imp.refl _ | exact Imp.nil _ | (apply Imp.pull; focus ((repeat first | exact Del.head _ _ | apply Del.tail); done)) | (apply Imp.row; focus ((repeat first | exact Del.head _ _ | apply Del.tail); done)) | apply Imp.drop))


theorem u64_ok (p b at_ : Nat) (v : Value) (bs : List UInt8) (ss : List Spn) (hbs : bs.length ≤ 1048576) (hlen : ss.length ≤ 1048576) (hb : ∀ s ∈ ss, s.1 + s.2 ≤ 1048576) (ha : at_ < 4294967296) (h : at_ + 8 ≤ bs.length) :
    Sat Try.prog 22 [.pointer (some ⟨p, 0, none⟩), .int .u32 at_] [row 70 p [.slice (some ⟨b, 0, none⟩) bs.length bs.length, v], row 5 b (bs.map byteV), sl 110 2 v ss.length (spans ss)] (fun u L' => u = .tuple #[.int .u64 (leN ((bs.drop at_).take 8) : Nat), .int .i64 0] ∧ L' = [row 70 p [.slice (some ⟨b, 0, none⟩) bs.length bs.length, v], row 5 b (bs.map byteV), sl 110 2 v ss.length (spans ss)]) := by
  refine Sat.enter Try.func22 rfl Try.ntmps22 rfl (fun c R => ?_)
  try simp only [List.cons_append, List.nil_append]
  refine T.seq ?_
  refine T.reg ?_
  refine TO.p (DP.as (by conv => lhs; whnf)) ?_
  refine TO.p (DP.as (by conv => lhs; whnf)) ?_
  refine TO.nil ?_
  refine TQ.nn ?_
  refine T.seq ?_
  refine T.reg ?_
  refine TO.p (DP.mv (by conv => lhs; whnf)) ?_
  refine TO.p (DP.mv (by conv => lhs; whnf)) ?_
  refine TO.n (N.callF (number64_ok p b at_ v bs ss 8 hbs hlen hb ha h (by omega) (by omega)) Try.call42 ⟨rfl, rfl, rfl, trivial⟩ (by (repeat first | exact Pick.nil _ | (apply Pick.cons; focus ((repeat first | exact Del.head _ _ | apply Del.tail); done))))) ?_
  rintro u8 _ ⟨_, ⟨rfl, rfl⟩, rfl⟩
  try simp only [List.cons_append, List.nil_append]
  refine TO.p (DP.ex rfl rfl) ?_
  refine TO.p (DP.ex rfl rfl) ?_
  refine TO.p (DP.as (by conv => lhs; whnf)) ?_
  refine TO.p (DP.as (by conv => lhs; whnf)) ?_
  refine TO.nil ?_
  refine TQ.nn ?_
  refine T.ret ?_
  refine TQ.ret (vs := [.int .u64 (leN ((bs.drop at_).take 8) : Nat), .int .i64 0]) (L' := [_, _, _]) rfl ⟨rfl, rfl, rfl⟩ ⟨rfl, rfl⟩ (by (refine Ent.imp ?_; repeat first | exact Imp.refl _ | exact Imp.nil _ | (apply Imp.pull; focus ((repeat first | exact Del.head _ _ | apply Del.tail); done)) | (apply Imp.row; focus ((repeat first | exact Del.head _ _ | apply Del.tail); done)) | apply Imp.drop))


theorem u64_out (p b at_ : Nat) (v : Value) (bs : List UInt8) (ss : List Spn) (hbs : bs.length ≤ 1048576) (hlen : ss.length ≤ 1048576) (hb : ∀ s ∈ ss, s.1 + s.2 ≤ 1048576) (ha : at_ < 4294967296) (h : bs.length < at_ + 8) :
    Sat Try.prog 22 [.pointer (some ⟨p, 0, none⟩), .int .u32 at_] [row 70 p [.slice (some ⟨b, 0, none⟩) bs.length bs.length, v], row 5 b (bs.map byteV), sl 110 2 v ss.length (spans ss)] (fun u L' => u = .tuple #[.int .u64 (0 : Nat), .int .i64 10] ∧ L' = [row 70 p [.slice (some ⟨b, 0, none⟩) bs.length bs.length, v], row 5 b (bs.map byteV), sl 110 2 v ss.length (spans ss)]) := by
  refine Sat.enter Try.func22 rfl Try.ntmps22 rfl (fun c R => ?_)
  try simp only [List.cons_append, List.nil_append]
  refine T.seq ?_
  refine T.reg ?_
  refine TO.p (DP.as (by conv => lhs; whnf)) ?_
  refine TO.p (DP.as (by conv => lhs; whnf)) ?_
  refine TO.nil ?_
  refine TQ.nn ?_
  refine T.seq ?_
  refine T.reg ?_
  refine TO.p (DP.mv (by conv => lhs; whnf)) ?_
  refine TO.p (DP.mv (by conv => lhs; whnf)) ?_
  refine TO.n (N.callF (number64_out p b at_ v bs ss 8 hbs hlen hb ha (by omega) h) Try.call42 ⟨rfl, rfl, rfl, trivial⟩ (by (repeat first | exact Pick.nil _ | (apply Pick.cons; focus ((repeat first | exact Del.head _ _ | apply Del.tail); done))))) ?_
  rintro u8 _ ⟨_, ⟨rfl, rfl⟩, rfl⟩
  try simp only [List.cons_append, List.nil_append]
  refine TO.p (DP.ex rfl rfl) ?_
  refine TO.p (DP.ex rfl rfl) ?_
  refine TO.p (DP.as (by conv => lhs; whnf)) ?_
  refine TO.p (DP.as (by conv => lhs; whnf)) ?_
  refine TO.nil ?_
  refine TQ.nn ?_
  refine T.ret ?_
  refine TQ.ret (vs := [.int .u64 (0 : Nat), .int .i64 10]) (L' := [_, _, _]) rfl ⟨rfl, rfl, rfl⟩ ⟨rfl, rfl⟩ (by (refine Ent.imp ?_; repeat first | exact Imp.refl _ | exact Imp.nil _ | (apply Imp.pull; focus ((repeat first | exact Del.head _ _ | apply Del.tail); done)) | (apply Imp.row; focus ((repeat first | exact Del.head _ _ | apply Del.tail); done)) | apply Imp.drop))


theorem u64A (p at_ : Nat) (bs : List UInt8) (lt : List Bool) (ha : at_ < 4294967296) :
    Sat Try.prog 22 [.pointer (some ⟨p, 0, none⟩), .int .u32 at_] [memA p bs lt] (fun u L' => u = .tuple #[.int .u64 ((numE bs at_ 8).1 : Nat), .int .i64 ((numE bs at_ 8).2 : Nat)] ∧ L' = [memA p bs lt]) := by
  refine Sat.openA1 ?_
  rintro ⟨b, v, ss⟩ ⟨hbs, hcn, rfl⟩
  dsimp only
  obtain ⟨hlen, hb⟩ := canon_facts hcn hbs
  unfold numE
  split
  · rename_i h2
    refine (u64_ok p b at_ v bs ss hbs hlen hb ha h2).post ?_
    rintro u L' ⟨rfl, rfl⟩
    exact ⟨_, Imp.shutA1 ⟨b, v, ss⟩ ⟨hbs, hcn, rfl⟩ (Imp.refl _), rfl, rfl⟩
  · rename_i h2
    refine (u64_out p b at_ v bs ss hbs hlen hb ha (by omega)).post ?_
    rintro u L' ⟨rfl, rfl⟩
    exact ⟨_, Imp.shutA1 ⟨b, v, ss⟩ ⟨hbs, hcn, rfl⟩ (Imp.refl _), rfl, rfl⟩

instance {L R : List Assn} {p : Nat} {bs : List UInt8} {lt : List Bool} {x : Int} {a : Nat} [hm : MemAt L p bs lt R] [hx : Nn x a] : FnR Try.prog 22 [.pointer (some ⟨p, 0, none⟩), .int .u32 x] L (fun kk => Vc (a < 4294967296) (kk (asResult [.int .u64 ((numE bs a 8).1 : Nat), .int .i64 ((numE bs a 8).2 : Nat)]) (memA p bs lt :: R))) :=
  ⟨fun kk h => ⟨_, R, _, by rw [hx.h]; exact u64A p a bs lt h.l, .cons hm.h (.nil _), fun v L' hv => by rw [hv.1, hv.2]; exact h.r⟩⟩
end Go.Proofs.Ytfgpnipnaaeafaa


namespace Go.Proofs.Ytfgpnipnaaeafaa
open Go Pw
set_option maxRecDepth 20000
set_option maxHeartbeats 4000000
/-- Where a ring and a pool of S requests lie. -/
structure DLay (A n P S N : Nat) : Prop where
  n0 : 0 < n
  n2 : n ≤ 256
  sz : sizeE (n : Nat) = partN n + 6 + 8 * n
  AP : A + sizeE (n : Nat) ≤ P
  PN : P + S * 1041 ≤ N
  N2 : N ≤ 1048576
/-- Is a byte the device's: of the used part, or of a request. -/
def lentB (A n : Nat) (K : AC) (j : Nat) : Bool := decide (A + partN n ≤ j ∧ j < A + partN n + 6 + 8 * n) || K.any fun k => decide (k.2.at_ + 16 ≤ j ∧ j < k.2.at_ + 1041)
/-- What holds of a disk that has not failed. -/
structure DskI (A n P S N : Nat) (X : XC) (K : AC) (tk : List Bool) (nx ls : Nat) (wh : List UInt8) (lt : List Bool) (bs : List UInt8) : Prop where
  ok : RgOk A N X tk nx ls
  tl : tk.length = n
  pr : Prd N X K
  bl : bs.length = N
  wl : wh.length = S
  ll : lt.length = N
  sl : ∀ k ∈ K, ∃ i, i < S ∧ k.2.at_ = P + i * 1041 ∧ gt wh i = 1
  nd : (K.map (·.2.at_)).Nodup
  w1 : ∀ i, i < S → gt wh i ≠ 0 → ∃ k ∈ K, k.2.at_ = P + i * 1041
  lt : ∀ j, j < N → lt[j]? = some (lentB A n K j)
  d3 : ∀ y ∈ X, y.2.d.length = 3
theorem DskI.full {A n P S N : Nat} {X : XC} {K : AC} {tk : List Bool} {nx ls : Nat} {wh : List UInt8} {lt : List Bool} {bs : List UInt8} (i : DskI A n P S N X K tk nx ls wh lt bs) (h : ∀ j, j < wh.length → gt wh j ≠ 0) : S ≤ K.length := by
  have h1 : ((List.range S).map fun j => P + j * 1041).Nodup := List.Pairwise.map _ (fun a b (hab : a ≠ b) => by
    show P + a * 1041 ≠ P + b * 1041
    omega) List.nodup_range
  have h2 : ((List.range S).map fun j => P + j * 1041) ⊆ K.map (·.2.at_) := by
    intro x hx
    obtain ⟨j, hj, rfl⟩ := List.mem_map.1 hx
    have hj2 := List.mem_range.1 hj
    obtain ⟨k, hk, e⟩ := i.w1 j hj2 (h j (by rw [i.wl]; exact hj2))
    exact List.mem_map.2 ⟨k, hk, e⟩
  have h3 := h1.length_le_of_subset h2
  rwa [List.length_map, List.length_range, List.length_map] at h3
theorem DskI.free {A n P S N a e : Nat} {X : XC} {K : AC} {tk : List Bool} {nx ls : Nat} {wh wh' : List UInt8} {lt : List Bool} {bs : List UInt8} (i : DskI A n P S N X K tk nx ls wh lt bs) (hg : GetP P 1041 wh a e wh') (h : K.length < S) : e = 0 ∧ ∃ j, j < S ∧ a = P + j * 1041 ∧ gt wh j = 0 ∧ wh' = wh.set j 1 := by
  cases hg with
  | full hf => exact absurd (i.full hf) (by omega)
  | got j h1 h2 h3 => exact ⟨rfl, j, by rw [← i.wl]; exact h1, rfl, h2, rfl⟩
/-- No request that waits lies where one is free. -/
theorem DskI.apart {A n P S N j : Nat} {X : XC} {K : AC} {tk : List Bool} {nx ls : Nat} {wh : List UInt8} {lt : List Bool} {bs : List UInt8} (i : DskI A n P S N X K tk nx ls wh lt bs) (hz : gt wh j = 0) {k : Nat × Ask} (hk : k ∈ K) : k.2.at_ + 1041 ≤ P + j * 1041 ∨ P + j * 1041 + 1041 ≤ k.2.at_ := by
  obtain ⟨m, hm, he, h1⟩ := i.sl k hk
  rw [he]
  have : m ≠ j := fun e => by rw [e, hz] at h1; exact absurd h1 (by decide)
  rcases Nat.lt_or_gt_of_ne this with h | h
  · exact .inl (by omega)
  · exact .inr (by omega)
theorem lentB_own {A n P j S N : Nat} {X : XC} {K : AC} {tk : List Bool} {nx ls : Nat} {wh : List UInt8} {lt : List Bool} {bs : List UInt8} (g : DLay A n P S N) (i : DskI A n P S N X K tk nx ls wh lt bs) (hj : j < S) (hz : gt wh j = 0) {x : Nat} (h1 : P + j * 1041 ≤ x) (h2 : x < P + j * 1041 + 1041) : lt[x]? = some false := by
  have hN := g.PN
  have hm : j * 1041 + 1041 ≤ S * 1041 := by have := Nat.mul_le_mul_right 1041 (show j + 1 ≤ S by omega); omega
  rw [i.lt x (by omega)]
  congr 1
  unfold lentB
  have hAP := g.AP
  have hsz := g.sz
  rw [Bool.or_eq_false_iff]
  refine ⟨decide_eq_false (by omega), ?_⟩
  rw [List.any_eq_false]
  intro k hk
  have := i.apart hz hk
  simp only [decide_eq_true_eq]
  omega
theorem turn_ok {lt : List Bool} {a l e : Nat} (h0 : 0 < l) (h1 : a + l ≤ lt.length) (h : ∀ k, a ≤ k → k < a + l → lt[k]? = some false) : turnE lt a l true e = (0, fillB lt a l true) := by
  unfold turnE
  rw [if_pos ⟨h0, h1⟩, Bool.not_true, if_pos ((allB_iff h1).2 fun k h2 h3 => h k h2 h3)]
/-- What is lent behind a request. -/
theorem lend_get {lt : List Bool} {a N : Nat} (hl : lt.length = N) (hN : a + 1041 ≤ N) (h : ∀ k, a ≤ k → k < a + 1041 → lt[k]? = some false) : (turnE lt (a + 16) 1024 true 11).1 = 0 ∧ (turnE (ldE lt (lay a) 2) (a + 1040) 1 true 11).1 = 0 ∧ (ldE lt (lay a) 3).length = N ∧ ∀ j, j < N → (ldE lt (lay a) 3)[j]? = if a + 16 ≤ j ∧ j < a + 1041 then some true else lt[j]? := by
  have e1 : turnE lt (a + 16) 1024 true 11 = (0, fillB lt (a + 16) 1024 true) := turn_ok (by decide) (by omega) fun k h1 h2 => h k (by omega) (by omega)
  have e2 : ldE lt (lay a) 2 = fillB lt (a + 16) 1024 true := by
    show (turnE lt (a + 16) 1024 true 11).2 = _
    rw [e1]
  have l2 : (fillB lt (a + 16) 1024 true).length = N := by rw [fillB_len (by omega), hl]
  have e3 : turnE (ldE lt (lay a) 2) (a + 1040) 1 true 11 = (0, fillB (fillB lt (a + 16) 1024 true) (a + 1040) 1 true) := by
    rw [e2]
    refine turn_ok (by decide) (by omega) fun k h1 h2 => ?_
    rw [fillB_get (by omega) k (by omega), if_neg (by omega)]
    exact h k (by omega) (by omega)
  have e4 : ldE lt (lay a) 3 = fillB (fillB lt (a + 16) 1024 true) (a + 1040) 1 true := by
    show (turnE (ldE lt (lay a) 2) (a + 1040) 1 true 11).2 = _
    rw [e3]
  refine ⟨by rw [e1], by rw [e3], by rw [e4, fillB_len (by omega), l2], fun j hj => ?_⟩
  rw [e4, fillB_get (by omega) j (by omega)]
  by_cases h1 : a + 1040 ≤ j ∧ j < a + 1040 + 1
  · rw [if_pos h1, if_pos (by omega)]
  · rw [if_neg h1, fillB_get (by omega) j (by omega)]
    by_cases h2 : a + 16 ≤ j ∧ j < a + 16 + 1024
    · rw [if_pos h2, if_pos (by omega)]
    · rw [if_neg h2, if_neg (by omega)]
theorem ds3 : ∀ {X : XC}, (∀ y ∈ X, y.2.d.length = 3) → (dsX X).length = 3 * X.length
  | [], _ => rfl
  | y :: X, h => by
    rw [dsX_cons, List.length_append, h y List.mem_cons_self, ds3 (fun z hz => h z (List.mem_cons_of_mem _ hz)), List.length_cons]
    omega
theorem Prd.len {N : Nat} {X : XC} {K : AC} (i : Prd N X K) : X.length = K.length := by
  have := congrArg List.length i.pr
  rwa [List.length_map, List.length_map] at this
/-- A request goes out, where there is room. -/
theorem DskI.read {A n P S N b dn id e dn' nx nx' ls : Nat} {fl' : Bool} {X X' : XC} {K K' : AC} {tk tk' : List Bool} {wh wh' : List UInt8} {lt lt' : List Bool} {bs bs' : List UInt8} (g : DLay A n P S N) (i : DskI A n P S N X K tk nx ls wh lt bs) (hn : 3 * S ≤ n) (hK : K.length < S) (h : ReadP A P b bs lt X tk nx false K wh dn id e dn' fl' bs' lt' X' tk' nx' K' wh') : id = dn ∧ e = 0 ∧ dn' = dn + 1 ∧ fl' = false ∧ DskI A n P S N X' K' tk' nx' ls wh' lt' bs' ∧ ∃ a hd j, j < S ∧ a = P + j * 1041 ∧ gt wh j = 0 ∧ K' = K ++ [(hd, ⟨dn, b, a⟩)] ∧ AddP A (rdB bs lt a b) lt (lay a) X tk nx false hd 0 bs' lt' X' tk' nx' := by
  have hN2 := g.N2
  have hPN := g.PN
  have hAP := g.AP
  have hsz := g.sz
  have main : ∀ {a hd e2 : Nat} {wh1 bs1 : List UInt8} {lt1 tk1 : List Bool} {X1 : XC} {nx1 : Nat}, GetP P 1041 wh a 0 wh1 → AddP A (rdB bs lt a b) lt (lay a) X tk nx false hd e2 bs1 lt1 X1 tk1 nx1 → e2 = 0 ∧ DskI A n P S N X1 (K ++ [(hd, ⟨dn, b, a⟩)]) tk1 nx1 ls wh1 lt1 bs1 ∧ ∃ j, j < S ∧ a = P + j * 1041 ∧ gt wh j = 0 := by
    intro a hd e2 wh1 bs1 lt1 tk1 X1 nx1 hg ha
    obtain ⟨_, j, hj, rfl, hz, rfl⟩ := i.free hg hK
    have hm : j * 1041 + 1041 ≤ S * 1041 := by have := Nat.mul_le_mul_right 1041 (show j + 1 ≤ S by omega); omega
    have haN : P + j * 1041 + 1041 ≤ N := by omega
    have hrl : (rdB bs lt (P + j * 1041) b).length = N := (rdB_len _ _ _ _).trans i.bl
    have hown : ∀ k, P + j * 1041 ≤ k → k < P + j * 1041 + 1041 → lt[k]? = some false := fun k h1 h2 => lentB_own g i hj hz h1 h2
    obtain ⟨t1, t2, t3, t4⟩ := lend_get i.ll haN hown
    have hAS : A + sizeE (tk.length : Nat) ≤ P + j * 1041 := by rw [i.tl]; omega
    have hcnt : 3 ≤ cntF tk tk.length := by
      have h1 := i.ok.cnt
      rw [ds3 i.d3, i.pr.len] at h1
      have h2 := i.tl
      omega
    have hok := add_ok (lay_ok (by omega)) ha (by rw [hrl]; exact i.ok)
    have hlen := add_len ha
    rw [hlen.2, hrl] at hok
    cases ha with
    | dead h1 => cases h1
    | no e h1 h2 h3 => exact absurd (may_lay h2 (by rw [hrl]; exact haN) hcnt) h3
    | lent e lt2 h1 h2 h3 h4 => exact absurd (lend_lay h3 hAS t1 t2).1 h4
    | done lt2 bs2 da dk ba bk h1 h2 h3 h4 h5 =>
      have hlt := (lend_lay h3 hAS t1 t2).2
      subst hlt
      refine ⟨rfl, ⟨hok, hlen.1.trans i.tl, ⟨?_, fun k hk => ?_⟩, hlen.2.trans hrl, by rw [List.length_set]; exact i.wl, t3, fun k hk => ?_, ?_, fun m hm2 hm3 => ?_, fun m hm2 => ?_, fun y hy => ?_⟩, j, hj, rfl, hz⟩
      · rw [List.map_append, List.map_append, i.pr.pr]; rfl
      · rcases List.mem_append.1 hk with hk | hk
        · exact i.pr.at_ k hk
        · rw [List.mem_singleton] at hk; subst hk; exact haN
      · rcases List.mem_append.1 hk with hk | hk
        · obtain ⟨m, hm2, hm3, hm4⟩ := i.sl k hk
          refine ⟨m, hm2, hm3, ?_⟩
          rw [gt_set (by rw [i.wl]; exact hj)]
          split
          · rfl
          · exact hm4
        · rw [List.mem_singleton] at hk; subst hk
          exact ⟨j, hj, rfl, by rw [gt_set (by rw [i.wl]; exact hj), if_pos rfl]⟩
      · rw [List.map_append, List.nodup_append]
        refine ⟨i.nd, by simp, fun x hx y hy => ?_⟩
        obtain ⟨k, hk, rfl⟩ := List.mem_map.1 hx
        have := i.apart hz hk
        simp only [List.map_cons, List.map_nil, List.mem_singleton] at hy
        subst hy
        omega
      · rw [gt_set (by rw [i.wl]; exact hj)] at hm3
        by_cases hmj : m = j
        · subst hmj
          exact ⟨_, List.mem_append_right _ List.mem_cons_self, rfl⟩
        · rw [if_neg hmj] at hm3
          obtain ⟨k, hk, he⟩ := i.w1 m hm2 hm3
          exact ⟨k, List.mem_append_left _ hk, he⟩
      · rw [t4 m hm2, i.lt m hm2]
        unfold lentB
        rw [List.any_append]
        simp only [List.any_cons, List.any_nil, Bool.or_false]
        by_cases hc : P + j * 1041 + 16 ≤ m ∧ m < P + j * 1041 + 1041
        · rw [if_pos hc, decide_eq_true hc, Bool.or_true, Bool.or_true]
        · rw [if_neg hc, decide_eq_false hc, Bool.or_false]
      · rcases List.mem_append.1 hy with hy | hy
        · exact i.d3 y hy
        · rw [List.mem_singleton] at hy; subst hy
          exact (st_ok 3 (h2.ok rfl).2.2.2).dl
  cases h with
  | full hg he => exact absurd (i.free hg hK).1 he
  | asked hg ha =>
    obtain ⟨_, hI, j, hj, hja, hjz⟩ := main hg ha
    exact ⟨rfl, rfl, rfl, rfl, hI, _, _, j, hj, hja, hjz, rfl, ha⟩
  | back hg ha hp => exact absurd (main hg ha).1 (by decide)
  | broke hg ha h1 h2 => exact absurd (main hg ha).1 h1
end Go.Proofs.Ytfgpnipnaaeafaa


namespace Go.Proofs.Ytfgpnipnaaeafaa
open Go Pw
set_option maxRecDepth 20000
set_option maxHeartbeats 4000000
theorem DskI.geo {A n P S N : Nat} {X : XC} {K : AC} {tk : List Bool} {nx ls : Nat} {wh : List UInt8} {lt : List Bool} {bs : List UInt8} (g : DLay A n P S N) (i : DskI A n P S N X K tk nx ls wh lt bs) {k : Nat × Ask} (hk : k ∈ K) : DGeo A n k.2.at_ N lt := by
  obtain ⟨m, hm, he, _⟩ := i.sl k hk
  have hN := i.pr.at_ k hk
  have hAP := g.AP
  have hsz := g.sz
  refine ⟨g.n0, g.n2, by omega, hN, g.N2, i.ll, fun j h1 h2 => ?_, fun j h1 h2 => ?_⟩
  · rw [i.lt j (by omega)]
    congr 1
    unfold lentB
    rw [decide_eq_true (by omega)]; rfl
  · rw [i.lt j (by omega)]
    congr 1
    unfold lentB
    rw [Bool.or_eq_true]
    exact .inr (List.any_eq_true.2 ⟨k, hk, decide_eq_true ⟨h1, h2⟩⟩)
theorem DskI.mem {A n P S N : Nat} {X : XC} {K : AC} {tk : List Bool} {nx ls : Nat} {wh : List UInt8} {lt : List Bool} {bs bs' : List UInt8} (i : DskI A n P S N X K tk nx ls wh lt bs) (h : bs'.length = N) : DskI A n P S N X K tk nx ls wh lt bs' := { i with bl := h }
theorem back_ok2 {lt : List Bool} {a l e : Nat} (h0 : 0 < l) (h1 : a + l ≤ lt.length) (h : ∀ k, a ≤ k → k < a + l → lt[k]? = some true) : turnE lt a l false e = (0, fillB lt a l false) := by
  unfold turnE
  rw [if_pos ⟨h0, h1⟩, Bool.not_false, if_pos ((allB_iff h1).2 fun k h2 h3 => h k h2 h3)]
theorem back_get {lt : List Bool} {a N : Nat} (hl : lt.length = N) (hN : a + 1041 ≤ N) (h : ∀ k, a + 16 ≤ k → k < a + 1041 → lt[k]? = some true) : (bkE lt (lay a) 3).length = N ∧ ∀ j, j < N → (bkE lt (lay a) 3)[j]? = if a + 16 ≤ j ∧ j < a + 1041 then some false else lt[j]? := by
  have e1 : turnE lt (a + 16) 1024 false 12 = (0, fillB lt (a + 16) 1024 false) := back_ok2 (by decide) (by omega) fun k h1 h2 => h k (by omega) (by omega)
  have e2 : bkE lt (lay a) 2 = fillB lt (a + 16) 1024 false := by
    show (turnE lt (a + 16) 1024 false 12).2 = _
    rw [e1]
  have l2 : (fillB lt (a + 16) 1024 false).length = N := by rw [fillB_len (by omega), hl]
  have e3 : turnE (bkE lt (lay a) 2) (a + 1040) 1 false 12 = (0, fillB (fillB lt (a + 16) 1024 false) (a + 1040) 1 false) := by
    rw [e2]
    refine back_ok2 (by decide) (by omega) fun k h1 h2 => ?_
    rw [fillB_get (by omega) k (by omega), if_neg (by omega)]
    exact h k (by omega) (by omega)
  have e4 : bkE lt (lay a) 3 = fillB (fillB lt (a + 16) 1024 false) (a + 1040) 1 false := by
    show (turnE (bkE lt (lay a) 2) (a + 1040) 1 false 12).2 = _
    rw [e3]
  refine ⟨by rw [e4, fillB_len (by omega), l2], fun j hj => ?_⟩
  rw [e4, fillB_get (by omega) j (by omega)]
  by_cases h1 : a + 1040 ≤ j ∧ j < a + 1040 + 1
  · rw [if_pos h1, if_pos (by omega)]
  · rw [if_neg h1, fillB_get (by omega) j (by omega)]
    by_cases h2 : a + 16 ≤ j ∧ j < a + 16 + 1024
    · rw [if_pos h2, if_pos (by omega)]
    · rw [if_neg h2, if_neg (by omega)]
theorem atJ_splitA {K : AC} {n : Nat} {a : Ask} (h : atJ K n = some a) : ∃ A B, K = A ++ (n, a) :: B ∧ Pw.delJ K n = A ++ B := by
  induction K with
  | nil => cases h
  | cons x K ih =>
    obtain ⟨k, y⟩ := x
    unfold atJ at h
    unfold Pw.delJ
    rw [List.find?_cons] at h
    rw [List.findIdx?_cons]
    by_cases hk : k = n
    · subst hk
      simp only [decide_true] at h ⊢
      simp only [Option.map_some, Option.some.injEq] at h
      subst h
      exact ⟨[], K, rfl, rfl⟩
    · simp only [hk, decide_false] at h ⊢
      obtain ⟨A, B, h1, h2⟩ := ih h
      refine ⟨(k, y) :: A, B, by rw [h1]; rfl, ?_⟩
      unfold Pw.delJ at h2
      cases hf : K.findIdx? (fun q => decide (q.1 = n)) with
      | none =>
        rw [hf] at h2
        have h2' : K = A ++ B := h2
        show (k, y) :: K = _
        rw [List.cons_append, ← h2']
      | some m => rw [hf] at h2; simp only [Bool.false_eq_true, if_false, Option.map_some, List.eraseIdx_cons_succ]; rw [List.cons_append, ← h2]
/-- A request is answered. -/
theorem DskI.poll {A n P S N hd sz e0 e nx ls ls' : Nat} {br br' : Bool} {X X' : XC} {K : AC} {tk tk' : List Bool} {wh wh' : List UInt8} {lt lt' : List Bool} {bs : List UInt8} {a : Ask} (g : DLay A n P S N) (i : DskI A n P S N X K tk nx ls wh lt bs) (hK : atJ K hd = some a) (h : PollP bs lt A X tk ls br hd sz true e0 X' tk' ls' br' lt') (hp : PutP P 1041 wh a.at_ e wh') : DskI A n P S N X' (Pw.delJ K hd) tk' nx ls' wh' lt' bs := by
  have hok := poll_ok h i.ok
  have htl := (poll_len h).trans i.tl
  obtain ⟨U, V, hU, hD⟩ := atJ_splitA hK
  have hmem : ((hd, a) : Nat × Ask) ∈ K := by rw [hU]; exact List.mem_append_right _ List.mem_cons_self
  have hsub : ∀ k ∈ Pw.delJ K hd, k ∈ K := fun k hk => delJ_mem hk
  obtain ⟨j, hj, haj, hwj⟩ := i.sl _ hmem
  dsimp only at haj
  obtain ⟨_, rfl⟩ := hp.ok j (by rw [i.wl]; exact hj) haj hwj
  have hnd := i.nd
  rw [hU, List.map_append, List.map_cons] at hnd
  have hne : ∀ k ∈ Pw.delJ K hd, k.2.at_ ≠ a.at_ := by
    intro k hk e
    rw [hD] at hk
    rw [List.nodup_append, List.nodup_cons] at hnd
    rcases List.mem_append.1 hk with hk | hk
    · exact hnd.2.2 _ (List.mem_map.2 ⟨k, hk, rfl⟩) _ List.mem_cons_self e
    · exact hnd.2.1.1 (List.mem_map.2 ⟨k, hk, e⟩)
  have hap : ∀ k ∈ Pw.delJ K hd, k.2.at_ + 1041 ≤ a.at_ ∨ a.at_ + 1041 ≤ k.2.at_ := by
    intro k hk
    obtain ⟨m, hm, he, _⟩ := i.sl k (hsub k hk)
    have := hne k hk
    rw [he, haj] at this ⊢
    have hmj : m ≠ j := fun e => this (by rw [e])
    rcases Nat.lt_or_gt_of_ne hmj with h | h
    · exact .inl (by omega)
    · exact .inr (by omega)
  have hgeo := i.geo g hmem
  have haN := i.pr.at_ _ hmem
  dsimp only at haN
  obtain ⟨b1, b2⟩ := back_get i.ll haN (fun k h1 h2 => hgeo.bf k h1 h2)
  have hb := i.bl
  have hpr := i.pr.del (hd := hd)
  have hX := (poll_at' h).2.1
  obtain ⟨ch, hch⟩ := (poll_at' h).2.2
  obtain ⟨a', ha', hl', _⟩ := i.pr.get hch
  rw [hK] at ha'
  obtain rfl := Option.some.inj ha'
  have hlt : lt' = bkE lt (lay a.at_) 3 := by
    cases h with
    | done c h1 h2 h3 h4 h5 =>
      rw [hch] at h4
      obtain rfl := Option.some.inj h4
      rw [hl']; rfl
  subst hlt
  rw [hX] at hok ⊢
  refine ⟨hok, htl, hpr, hb, by rw [List.length_set]; exact i.wl, b1, fun k hk => ?_, ?_, fun m hm hm2 => ?_, fun m hm => ?_, fun y hy => i.d3 y (delJ_mem hy)⟩
  · obtain ⟨m, hm, he, h1⟩ := i.sl k (hsub k hk)
    refine ⟨m, hm, he, ?_⟩
    rw [gt_set (by rw [i.wl]; exact hj), if_neg]
    · exact h1
    · intro e
      exact hne k hk (by rw [he, haj, e])
  · rw [hD, List.map_append]
    rw [List.nodup_append, List.nodup_cons] at hnd
    rw [List.nodup_append]
    exact ⟨hnd.1, hnd.2.1.2, fun x hx y hy => hnd.2.2 x hx y (List.mem_cons_of_mem _ hy)⟩
  · rw [gt_set (by rw [i.wl]; exact hj)] at hm2
    by_cases hmj : m = j
    · rw [if_pos hmj] at hm2; exact absurd rfl hm2
    · rw [if_neg hmj] at hm2
      obtain ⟨k, hk, he⟩ := i.w1 m hm hm2
      refine ⟨k, ?_, he⟩
      rw [hU] at hk
      rw [hD]
      rcases List.mem_append.1 hk with hk | hk
      · exact List.mem_append_left _ hk
      · rcases List.mem_cons.1 hk with rfl | hk
        · exact absurd (haj.symm.trans he) (by omega)
        · exact List.mem_append_right _ hk
  · rw [b2 m hm, i.lt m hm]
    have hAP := g.AP
    have hsz := g.sz
    by_cases hc : a.at_ + 16 ≤ m ∧ m < a.at_ + 1041
    · rw [if_pos hc]
      congr 1
      symm
      unfold lentB
      rw [Bool.or_eq_false_iff]
      refine ⟨decide_eq_false (by omega), ?_⟩
      rw [List.any_eq_false]
      intro k hk
      have := hap k hk
      simp only [decide_eq_true_eq]
      omega
    · rw [if_neg hc]
      congr 1
      unfold lentB
      rw [hD, hU, List.any_append, List.any_append, List.any_cons, decide_eq_false hc, Bool.false_or]
end Go.Proofs.Ytfgpnipnaaeafaa


namespace Go.Proofs.Ytfgpnipnaaeafaa
open Go Pw
set_option maxRecDepth 20000
set_option maxHeartbeats 4000000
theorem part_ge (n : Nat) : 18 * n + 6 ≤ partN n := by unfold partN; omega
/-- What Add has written into the available part, and into nothing else. -/
theorem av_facts {A n nx hd nx' N : Nat} {lt : List Bool} {bs bs2 : List UInt8} (h : AvP A n nx hd nx' lt bs bs2) (hn : 0 < n) (hb : bs.length = N) (hl : lt.length = N) (hN : A + partN n ≤ N) (hhd : hd < 65536) (hnx : nx' < 65536) (hf : ∀ k, A ≤ k → k < A + partN n → lt[k]? = some false) : (numE bs2 (A + 16 * n + 2) 2).1 = nx' ∧ (numE bs2 (A + 16 * n + 4 + 2 * (nx % n)) 2).1 = hd ∧ bs2.length = N ∧ ∀ k, k < A ∨ A + partN n ≤ k → bs2[k]? = bs[k]? := by
  obtain ⟨b0, b1, hd0, e1, e2⟩ := h.h
  have hp := part_ge n
  have hm := Nat.mod_lt nx hn
  have l2 := leB_len hd 2
  have l2' := leB_len nx' 2
  have hb0 : b0.length = N := hd0.k.len.trans hb
  have w1 : writeE b0 lt (A + 16 * n + 4 + 2 * (nx % n)) (leB hd 2) false 11 = (0, putB b0 (A + 16 * n + 4 + 2 * (nx % n)) (leB hd 2)) := writeE_ok (by omega) ((allB_iff (by omega)).2 fun k h1 h2 => hf k (by omega) (by omega))
  rw [w1] at e1
  dsimp only at e1
  have hb1 : b1.length = N := by rw [e1, putB_len (by omega), hb0]
  have w2 : writeE b1 lt (A + 16 * n + 2) (leB nx' 2) false 11 = (0, putB b1 (A + 16 * n + 2) (leB nx' 2)) := writeE_ok (by omega) ((allB_iff (by omega)).2 fun k h1 h2 => hf k (by omega) (by omega))
  rw [w2] at e2
  dsimp only at e2
  have hb2 : bs2.length = N := by rw [e2, putB_len (by omega), hb1]
  have get2 : ∀ k, bs2[k]? = if A + 16 * n + 2 ≤ k ∧ k < A + 16 * n + 4 then (leB nx' 2)[k - (A + 16 * n + 2)]? else if A + 16 * n + 4 + 2 * (nx % n) ≤ k ∧ k < A + 16 * n + 4 + 2 * (nx % n) + 2 then (leB hd 2)[k - (A + 16 * n + 4 + 2 * (nx % n))]? else b0[k]? := by
    intro k
    rw [e2, putB_get (by omega), l2', e1, putB_get (by omega), l2]
  refine ⟨numE_put (by show _ < 65536; exact hnx) (by omega) fun i hi => ?_, numE_put (by show _ < 65536; exact hhd) (by omega) fun i hi => ?_, hb2, fun k hk => ?_⟩
  · rw [get2, if_pos (by omega), Nat.add_sub_cancel_left]
  · rw [get2, if_neg (by omega), if_pos (by omega), Nat.add_sub_cancel_left]
  · rw [get2, if_neg (by omega), if_neg (by omega)]
    exact hd0.out k (by omega)
theorem DskI.ring {A n P S N : Nat} {X : XC} {K : AC} {tk : List Bool} {nx ls : Nat} {wh : List UInt8} {lt : List Bool} {bs : List UInt8} (g : DLay A n P S N) (i : DskI A n P S N X K tk nx ls wh lt bs) (k : Nat) (h1 : A ≤ k) (h2 : k < A + partN n) : lt[k]? = some false := by
  have hAP := g.AP
  have hsz := g.sz
  have hPN := g.PN
  rw [i.lt k (by omega)]
  congr 1
  unfold lentB
  rw [Bool.or_eq_false_iff]
  refine ⟨decide_eq_false (by omega), ?_⟩
  rw [List.any_eq_false]
  intro y hy
  obtain ⟨m, hm, he, _⟩ := i.sl y hy
  simp only [decide_eq_true_eq]
  omega
/-- What the driver has written for a request. -/
theorem rdB_get {lt : List Bool} {bs : List UInt8} {a b N : Nat} (hb : bs.length = N) (hl : lt.length = N) (hN : a + 1041 ≤ N) (hf : ∀ k, a ≤ k → k < a + 1041 → lt[k]? = some false) : (∀ j, j < 8 → (rdB bs lt a b)[a + 8 + j]? = (leB (b * 2) 8)[j]?) ∧ ∀ k, k < a ∨ a + 1041 ≤ k → (rdB bs lt a b)[k]? = bs[k]? := by
  have l8 := leB_len 0 8
  have l8' := leB_len (b * 2) 8
  have w1 : writeE bs lt a (leB 0 8) false 11 = (0, putB bs a (leB 0 8)) := writeE_ok (by omega) ((allB_iff (by omega)).2 fun k h1 h2 => hf k (by omega) (by omega))
  have hb1 : (putB bs a (leB 0 8)).length = N := by rw [putB_len (by omega), hb]
  have w2 : writeE (putB bs a (leB 0 8)) lt (a + 8) (leB (b * 2) 8) false 11 = (0, putB (putB bs a (leB 0 8)) (a + 8) (leB (b * 2) 8)) := writeE_ok (by omega) ((allB_iff (by omega)).2 fun k h1 h2 => hf k (by omega) (by omega))
  have hb2 : (putB (putB bs a (leB 0 8)) (a + 8) (leB (b * 2) 8)).length = N := by rw [putB_len (by omega), hb1]
  have w3 : writeE (putB (putB bs a (leB 0 8)) (a + 8) (leB (b * 2) 8)) lt (a + 1040) [255] false 11 = (0, putB (putB (putB bs a (leB 0 8)) (a + 8) (leB (b * 2) 8)) (a + 1040) [255]) := writeE_ok (by simp only [List.length_cons, List.length_nil]; omega) ((allB_iff (by simp only [List.length_cons, List.length_nil]; omega)).2 fun k h1 h2 => hf k (by omega) (by simp only [List.length_cons, List.length_nil] at h2; omega))
  have e : ∀ k, (rdB bs lt a b)[k]? = if a + 1040 ≤ k ∧ k < a + 1040 + 1 then ([255] : List UInt8)[k - (a + 1040)]? else if a + 8 ≤ k ∧ k < a + 8 + 8 then (leB (b * 2) 8)[k - (a + 8)]? else if a ≤ k ∧ k < a + 8 then (leB 0 8)[k - a]? else bs[k]? := by
    intro k
    unfold rdB
    rw [w1]
    dsimp only
    rw [w2]
    dsimp only
    rw [w3]
    dsimp only
    rw [putB_get (by simp only [List.length_cons, List.length_nil]; omega), putB_get (by omega), putB_get (by omega), l8, l8']
    rfl
  refine ⟨fun j hj => ?_, fun k hk => ?_⟩
  · rw [e, if_neg (by omega), if_pos (by omega), Nat.add_sub_cancel_left]
  · rw [e, if_neg (by omega), if_neg (by omega), if_neg (by omega)]
end Go.Proofs.Ytfgpnipnaaeafaa


namespace Go.Proofs.Ytfgpnipnaaeafaa
open Go Pw
set_option maxRecDepth 20000
set_option maxHeartbeats 4000000
/-- A disk that is new. -/
theorem DskI.init {A n P S N : Nat} {bs : List UInt8} (g : DLay A n P S N) (hA : A ≤ 1048576) (hb : bs.length = N) : DskI A n P S N [] [] (List.replicate n false) 0 0 (List.replicate S 0) (turnE (List.replicate N false) (A + partN n) (sizeE (n : Nat) - partN n) true 11).2 bs := by
  have hn0 := g.n0
  have hsz := g.sz
  have hAP := g.AP
  have hPN := g.PN
  have hl : (List.replicate N false).length = N := List.length_replicate
  have hrep : ∀ k, k < N → (List.replicate N false)[k]? = some false := fun k hk => by rw [List.getElem?_replicate, if_pos hk]
  have e : turnE (List.replicate N false) (A + partN n) (sizeE (n : Nat) - partN n) true 11 = (0, fillB (List.replicate N false) (A + partN n) (sizeE (n : Nat) - partN n) true) := turn_ok (by omega) (by omega) fun k h1 h2 => hrep k (by omega)
  rw [e]
  dsimp only
  refine ⟨rg0 hn0 g.n2 hA g.N2, List.length_replicate, ⟨rfl, fun k hk => absurd hk List.not_mem_nil⟩, hb, List.length_replicate, by rw [fillB_len (by omega), hl], fun k hk => absurd hk List.not_mem_nil, List.nodup_nil, fun m hm h => ?_, fun j hj => ?_, fun y hy => absurd hy List.not_mem_nil⟩
  · exfalso
    apply h
    unfold gt
    rw [List.getD_eq_getElem?_getD, List.getElem?_replicate, if_pos hm]; rfl
  · rw [fillB_get (by omega) j (by omega), hrep j hj]
    unfold lentB
    rw [List.any_nil, Bool.or_false]
    split
    · rename_i h; congr 1; exact (decide_eq_true (by omega)).symm
    · rename_i h; congr 1; exact (decide_eq_false (by omega)).symm
/-- One request is answered rightly: one poll tells it, and no more. -/
theorem one_all {A n P S N nx ls hd : Nat} {X : XC} {K : AC} {tk : List Bool} {wh : List UInt8} {lt : List Bool} {bs dt : List UInt8} {a : Ask} (g : DLay A n P S N) (i : DskI A n P S N X K tk nx ls wh lt bs) (hK : atJ K hd = some a) (hmem : (hd, a) ∈ K) (hhd : hd < 65536) (hls : ls + 1 < 65536) (hd0 : dt.length = 1024) : ∀ s b, AllE (svB bs dt A n a.at_ hd ls 0) A P ⟨X, tk, ls, false, K, wh, lt, [], none, 0⟩ s b → b = false ∧ s.ol = [(a, some dt)] ∧ s.K = Pw.delJ K hd ∧ s.ls = ls + 1 ∧ s.br = false ∧ DskI A n P S N s.X s.K s.tk nx s.ls s.wh s.lt (svB bs dt A n a.at_ hd ls 0) := by
  have geo := i.geo g hmem
  dsimp only at geo
  have hlB := svB_len (h := hd) (k := ls) (st := 0) geo i.bl hd0
  have hix : ixE (svB bs dt A n a.at_ hd ls 0) A n = ls + 1 := by rw [sv_ix geo i.bl hd0]; exact Nat.mod_eq_of_lt hls
  have hhdr : (numE (svB bs dt A n a.at_ hd ls 0) (slotE A n ls) 4).1 = hd := sv_hd geo i.bl hd0 hhd
  have hszr : (numE (svB bs dt A n a.at_ hd ls 0) (slotE A n ls + 4) 4).1 = 1025 := sv_sz geo i.bl hd0
  have hans : ansE (svB bs dt A n a.at_ hd ls 0) a.at_ 1025 = some dt := sv_ans geo i.bl hd0
  have iB := i.mem hlB
  generalize svB bs dt A n a.at_ hd ls 0 = B at *
  have htl := i.tl
  have hchx : ∃ ch, atJ X hd = some ch ∧ ch.l = lay a.at_ := by
    have h1 := atJ_map (fun c : Ch => c.l) hd X
    rw [i.pr.pr, atJ_map (fun a : Ask => lay a.at_) hd K, hK] at h1
    cases hX : atJ X hd with
    | none => rw [hX] at h1; cases h1
    | some ch => rw [hX] at h1; exact ⟨ch, rfl, (Option.some.inj h1).symm⟩
  obtain ⟨ch, hch, hcl⟩ := hchx
  have hroom : roomE ch.l ch.l.length = 1025 := by rw [hcl]; rfl
  have hXl : 0 < X.length := by
    cases X with
    | nil => cases hch
    | cons x X => exact Nat.succ_pos _
  have p0 : ∀ {hd2 sz e : Nat} {is : Bool} {X' : XC} {tk' : List Bool} {ls' : Nat} {br' : Bool} {lt' : List Bool}, PollP B lt A X tk ls false hd2 sz is e X' tk' ls' br' lt' → hd2 = hd ∧ sz = 1025 ∧ is = true ∧ e = 0 ∧ ls' = ls + 1 ∧ br' = false := by
    intro hd2 sz e is X' tk' ls' br' lt' hp
    cases hp with
    | dead h1 => cases h1
    | none h1 h2 => rw [htl, hix] at h2; omega
    | breaks h1 h2 h3 =>
      rw [htl, hix, hhdr, hszr, Nat.mod_eq_of_lt hhd] at h3
      rcases h3 with h3 | h3 | h3 | ⟨c, h3, h4⟩
      · rw [show ls + 1 + (65536 - ls) = 65537 by omega] at h3
        omega
      · rw [hch] at h3; cases h3
      · omega
      · rw [hch] at h3
        cases h3
        rw [hroom] at h4
        omega
    | done c h1 h2 h3 h4 h5 =>
      rw [htl] at *
      exact ⟨hhdr, hszr, rfl, rfl, Nat.mod_eq_of_lt hls, rfl⟩
  have p1 : ∀ {X2 : XC} {tk2 : List Bool} {lt2 : List Bool} {hd sz e : Nat} {is : Bool} {X' : XC} {tk' : List Bool} {ls' : Nat} {br' : Bool} {lt' : List Bool}, tk2.length = n → PollP B lt2 A X2 tk2 (ls + 1) false hd sz is e X' tk' ls' br' lt' → is = false ∧ e = 0 ∧ br' = false := by
    intro X2 tk2 lt2 hd sz e is X' tk' ls' br' lt' ht hp
    cases hp with
    | dead h1 => cases h1
    | none h1 h2 => exact ⟨rfl, rfl, rfl⟩
    | breaks h1 h2 h3 => rw [ht, hix] at h2; exact absurd rfl h2
    | done c h1 h2 => rw [ht, hix] at h2; exact absurd rfl h2
  have hT : ∀ s, AllT B A P ⟨X, tk, ls, false, K, wh, lt, [], none, 0⟩ s → s = ⟨X, tk, ls, false, K, wh, lt, [], none, 0⟩ ∨ (s.br = false ∧ s.ls = ls + 1 ∧ s.K = Pw.delJ K hd ∧ s.ol = [(a, some dt)] ∧ DskI A n P S N s.X s.K s.tk nx s.ls s.wh s.lt B) := by
    intro s hs
    induction hs with
    | refl => exact .inl rfl
    | @step s hd2 sz X' tk' ls' br' lt' a2 dt2 e wh' oa ok _ hp hK2 ha hput ih =>
      rcases ih with rfl | ⟨h1, h2, h3, h4, h5⟩
      · obtain ⟨rfl, rfl, _, _, rfl, rfl⟩ := p0 hp
        dsimp only at hK2 hput hp
        rw [hK] at hK2
        obtain rfl := Option.some.inj hK2
        rw [hans] at ha
        obtain rfl := Option.some.inj ha
        exact .inr ⟨rfl, rfl, rfl, rfl, iB.poll g hK hp hput⟩
      · obtain ⟨X2, tk2, ls2, br2, K2, wh2, lt2, ol2, oa2, ok2⟩ := s
        dsimp only at h1 h2 h5 hp
        subst h1; subst h2
        cases (p1 h5.tl hp).1
  intro s b hs
  cases hs with
  | @fin s hd2 sz br' ht hp =>
    rcases hT s ht with rfl | ⟨h1, h2, h3, h4, h5⟩
    · cases (p0 hp).2.2.1
    · obtain ⟨X2, tk2, ls2, br2, K2, wh2, lt2, ol2, oa2, ok2⟩ := s
      dsimp only at h1 h2 h3 h4 h5 hp ⊢
      subst h1; subst h2
      exact ⟨rfl, h4, h3, rfl, (p1 h5.tl hp).2.2, h5⟩
  | @brk s hd2 sz e is X' tk' ls' br' lt' ht hp he =>
    rcases hT s ht with rfl | ⟨h1, h2, h3, h4, h5⟩
    · exact absurd (p0 hp).2.2.2.1 he
    · obtain ⟨X2, tk2, ls2, br2, K2, wh2, lt2, ol2, oa2, ok2⟩ := s
      dsimp only at h1 h2 h5 hp
      subst h1; subst h2
      exact absurd (p1 h5.tl hp).2.1 he
  | @bad s hd2 sz X' tk' ls' br' lt' a2 e wh' oa ok ht hp hK2 ha hput =>
    rcases hT s ht with rfl | ⟨h1, h2, h3, h4, h5⟩
    · obtain ⟨rfl, rfl, _, _, rfl, rfl⟩ := p0 hp
      dsimp only at hK2
      rw [hK] at hK2
      obtain rfl := Option.some.inj hK2
      rw [hans] at ha
      cases ha
    · obtain ⟨X2, tk2, ls2, br2, K2, wh2, lt2, ol2, oa2, ok2⟩ := s
      dsimp only at h1 h2 h5 hp
      subst h1; subst h2
      cases (p1 h5.tl hp).1
end Go.Proofs.Ytfgpnipnaaeafaa

