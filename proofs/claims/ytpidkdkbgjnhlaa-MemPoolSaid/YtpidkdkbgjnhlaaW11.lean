/- Lemmas for the proofs of this seat: no statement of the seat is claimed here. -/
import Derived.Test.YtpidkdkbgjnhlaaW10
import Derived.Test.YtpidkdkbgjnhlaaL3
set_option linter.all false
namespace Go.Proofs.Ytpidkdkbgjnhlaa
open Go Pw
set_option maxRecDepth 20000
set_option maxHeartbeats 4000000
def boolV (b : Bool) : Value := .bool b
theorem putB_get {bs s : List UInt8} {a : Nat} (h : a + s.length ≤ bs.length) (k : Nat) (hk : k < bs.length) : (putB bs a s)[k]? = if a ≤ k ∧ k < a + s.length then s[k - a]? else bs[k]? := by
  unfold putB
  by_cases h1 : k < a
  · rw [List.append_assoc, List.getElem?_append_left (by simp; omega), List.getElem?_take, if_pos h1, if_neg (by omega)]
  · by_cases h2 : k < a + s.length
    · rw [List.getElem?_append_left (by simp; omega), List.getElem?_append_right (by simp; omega), if_pos ⟨by omega, h2⟩]
      congr 1; simp; omega
    · rw [List.getElem?_append_right (by simp; omega), List.getElem?_drop, if_neg (by omega)]
      congr 1; simp; omega
theorem putB_set {bs s : List UInt8} {a i : Nat} {x : UInt8} (h : a + s.length ≤ bs.length) (hx : s[i]? = some x) : ((putB bs a (s.take i)).map byteV).set (a + i) (byteV x) = (putB bs a (s.take (i + 1))).map byteV := by
  have hi : i < s.length := by
    rcases Nat.lt_or_ge i s.length with h1 | h1
    · exact h1
    · rw [List.getElem?_eq_none h1] at hx; cases hx
  rw [← List.map_set]
  congr 1
  apply List.ext_getElem?
  intro k
  have hl1 : (s.take i).length = i := by simp; omega
  have hl2 : (s.take (i + 1)).length = i + 1 := by simp; omega
  have h1 := putB_len (bs := bs) (a := a) (s := s.take i) (by omega)
  have h2 := putB_len (bs := bs) (a := a) (s := s.take (i + 1)) (by omega)
  rcases Nat.lt_or_ge k bs.length with hk | hk
  · rw [putB_get (by omega) k hk, List.getElem?_set, putB_get (by omega) k hk, h1, hl1, hl2, List.getElem?_take, List.getElem?_take]
    by_cases h3 : a + i = k
    · rw [if_pos h3, if_pos (by omega), if_pos (by omega), if_pos (by omega), show k - a = i by omega, hx]
    · rw [if_neg h3]
      by_cases h4 : a ≤ k ∧ k < a + i
      · rw [if_pos h4, if_pos (by omega), if_pos (by omega), if_pos (by omega)]
      · rw [if_neg h4, if_neg (by omega)]
  · rw [List.getElem?_eq_none (by rw [List.length_set]; omega), List.getElem?_eq_none (by omega)]
theorem putB_nil (bs : List UInt8) (a : Nat) : putB bs a [] = bs := by simp [putB]
theorem fillB_set {lt : List Bool} {a l i : Nat} {x : Bool} (h : a + l ≤ lt.length) (hi : i < l) : ((fillB lt a i x).map boolV).set (a + i) (.bool x) = (fillB lt a (i + 1) x).map boolV := by
  rw [show Value.bool x = boolV x from rfl, ← List.map_set]
  congr 1
  apply List.ext_getElem?
  intro k
  have h1 := fillB_len (lt := lt) (a := a) (l := i) (x := x) (by omega)
  have h2 := fillB_len (lt := lt) (a := a) (l := i + 1) (x := x) (by omega)
  rcases Nat.lt_or_ge k lt.length with hk | hk
  · rw [fillB_get (by omega) k hk, List.getElem?_set, fillB_get (by omega) k hk, h1]
    by_cases h3 : a + i = k
    · rw [if_pos h3, if_pos (by omega), if_pos (by omega)]
    · rw [if_neg h3]
      by_cases h4 : a ≤ k ∧ k < a + i
      · rw [if_pos h4, if_pos (by omega)]
      · rw [if_neg h4, if_neg (by omega)]
  · rw [List.getElem?_eq_none (by rw [List.length_set]; omega), List.getElem?_eq_none (by omega)]
theorem fillB_nil (lt : List Bool) (a : Nat) (x : Bool) : fillB lt a 0 x = lt := by simp [fillB]
theorem map_byte {bs : List UInt8} {i : Nat} {x : UInt8} (h : bs[i]? = some x) : (bs.map byteV)[i]? = some (byteV x) := by rw [List.getElem?_map, h]; rfl
theorem map_bool {bs : List Bool} {i : Nat} {x : Bool} (h : bs[i]? = some x) : (bs.map boolV)[i]? = some (.bool x) := by rw [List.getElem?_map, h]; rfl
theorem by4 : Try.prog.bytesOf 4 = 1 := by kernel_rfl
theorem pl4 : plainT Try.prog 4 = true := by kernel_rfl
theorem pl61 : plainT Try.prog 61 = true := by kernel_rfl
theorem sz4 : Try.prog.cellsOf 4 = 0 + 1 := by kernel_rfl
theorem sz61 : Try.prog.cellsOf 61 = 0 + 1 := by kernel_rfl
theorem zr4 : Try.prog.zeroOf 4 = some (.bool false) := by kernel_rfl
theorem rin_yes (r b n at_ m : Nat) (V : Value) (hn : n ≤ 1048576) (ha : at_ < 4294967296) (h : at_ + m ≤ n) :
    Sat Try.prog 53 [.pointer (some ⟨r, 0, none⟩), .int .u32 at_, .int .i64 m] [row 63 r [.slice (some ⟨b, 0, none⟩) n n, V]] (fun u L' => u = .bool true ∧ L' = [row 63 r [.slice (some ⟨b, 0, none⟩) n n, V]]) := by
  refine Sat.enter Try.func53 rfl Try.ntmps53 rfl (fun c R => ?_)
  try simp only [List.cons_append, List.nil_append]
  refine T.seq ?_
  refine T.reg ?_
  refine TO.p (DP.as (by conv => lhs; whnf)) ?_
  refine TO.nil ?_
  refine TQ.nn ?_
  refine T.seq ?_
  refine T.reg ?_
  refine TO.p (DP.mv (by conv => lhs; whnf)) ?_
  refine TO.p (DP.geq (b := 0) rfl rfl) ?_
  refine TO.pB (DP.mv (by conv => lhs; whnf)) (fun hg9 => ?_) (fun hg9 => ?_)
  · refine TO.onP rfl (DP.mv (by conv => lhs; whnf)) ?_
    refine TO.onP rfl (DP.mv (by conv => lhs; whnf)) ?_
    refine TO.onP rfl (DP.nck rfl) ?_
    refine TO.onP rfl (DP.fa 0 rfl Try.underlying63 rfl rfl sz49) ?_
    refine TO.onD rfl (D.ldR rfl pl49 (by (repeat first | exact LMem.head _ _ | apply LMem.tail)) (by rfl)) ?_
    refine TO.onP rfl (DP.lenS rfl Try.underlying49) ?_
    refine TO.onP rfl (DP.leq rfl rfl) ?_
    refine TO.p (DP.pkT rfl (by conv => lhs; whnf)) ?_
    refine TO.pB (DP.mv (by conv => lhs; whnf)) (fun hg18 => ?_) (fun hg18 => ?_)
    · refine TO.onP rfl (DP.mv (by conv => lhs; whnf)) ?_
      refine TO.onP rfl (DP.cv rfl is30 Try.underlying3 (l := 9223372036854775808) rfl (by omega)) ?_
      refine TO.onP rfl (DP.mv (by conv => lhs; whnf)) ?_
      refine TO.onP rfl (DP.nck rfl) ?_
      refine TO.onP rfl (DP.fa 0 rfl Try.underlying63 rfl rfl sz49) ?_
      refine TO.onD rfl (D.ldR rfl pl49 (by (repeat first | exact LMem.head _ _ | apply LMem.tail)) (by rfl)) ?_
      refine TO.onP rfl (DP.lenS rfl Try.underlying49) ?_
      refine TO.onP rfl (DP.mv (by conv => lhs; whnf)) ?_
      refine TO.onP rfl (DP.sub rfl rfl (l := 9223372036854775808) rfl (by omega) (by omega)) ?_
      refine TO.onP rfl (DP.to (v' := .bool true) (DP.leq rfl rfl) (by simp; omega)) ?_
      refine TO.p (DP.pkT rfl (by conv => lhs; whnf)) ?_
      refine TO.p (DP.as (by conv => lhs; whnf)) ?_
      refine TO.nil ?_
      refine TQ.nn ?_
      refine T.ret ?_
      refine TQ.ret (vs := [.bool true]) (L' := [_]) rfl ⟨rfl, rfl⟩ ⟨rfl, rfl⟩ (by (refine Ent.imp ?_; repeat first | exact Imp.refl _ | exact Imp.nil _ | (apply Imp.pull; focus ((repeat first | exact Del.head _ _ | apply Del.tail); done)) | (apply Imp.row; focus ((repeat first | exact Del.head _ _ | apply Del.tail); done)) | apply Imp.drop))
    · exact absurd (by omega) hg18
  · exact absurd (Nat.zero_le _) hg9

theorem rin_no (r b n at_ : Nat) (m : Int) (V : Value) (hn : n ≤ 1048576) (ha : at_ < 4294967296) (h : m < 0 ∨ n < at_ + m.toNat) :
    Sat Try.prog 53 [.pointer (some ⟨r, 0, none⟩), .int .u32 at_, .int .i64 m] [row 63 r [.slice (some ⟨b, 0, none⟩) n n, V]] (fun u L' => u = .bool false ∧ L' = [row 63 r [.slice (some ⟨b, 0, none⟩) n n, V]]) := by
  refine Sat.enter Try.func53 rfl Try.ntmps53 rfl (fun c R => ?_)
  try simp only [List.cons_append, List.nil_append]
  refine T.seq ?_
  refine T.reg ?_
  refine TO.p (DP.as (by conv => lhs; whnf)) ?_
  refine TO.nil ?_
  refine TQ.nn ?_
  refine T.seq ?_
  refine T.reg ?_
  refine TO.p (DP.mv (by conv => lhs; whnf)) ?_
  refine TO.p (DP.geqI rfl rfl) ?_
  refine TO.pB (DP.mv (by conv => lhs; whnf)) (fun hg9 => ?_) (fun hg9 => ?_)
  · refine TO.onP rfl (DP.mv (by conv => lhs; whnf)) ?_
    refine TO.onP rfl (DP.mv (by conv => lhs; whnf)) ?_
    refine TO.onP rfl (DP.nck rfl) ?_
    refine TO.onP rfl (DP.fa 0 rfl Try.underlying63 rfl rfl sz49) ?_
    refine TO.onD rfl (D.ldR rfl pl49 (by (repeat first | exact LMem.head _ _ | apply LMem.tail)) (by rfl)) ?_
    refine TO.onP rfl (DP.lenS rfl Try.underlying49) ?_
    refine TO.onP rfl (DP.leqI rfl rfl) ?_
    refine TO.p (DP.pkT rfl (by conv => lhs; whnf)) ?_
    refine TO.pB (DP.mv (by conv => lhs; whnf)) (fun hg18 => ?_) (fun hg18 => ?_)
    · refine TO.onP rfl (DP.mv (by conv => lhs; whnf)) ?_
      refine TO.onP rfl (DP.cv rfl is30 Try.underlying3 (l := 9223372036854775808) rfl (by omega)) ?_
      refine TO.onP rfl (DP.mv (by conv => lhs; whnf)) ?_
      refine TO.onP rfl (DP.nck rfl) ?_
      refine TO.onP rfl (DP.fa 0 rfl Try.underlying63 rfl rfl sz49) ?_
      refine TO.onD rfl (D.ldR rfl pl49 (by (repeat first | exact LMem.head _ _ | apply LMem.tail)) (by rfl)) ?_
      refine TO.onP rfl (DP.lenS rfl Try.underlying49) ?_
      refine TO.onP rfl (DP.mv (by conv => lhs; whnf)) ?_
      refine TO.onP rfl (DP.subI rfl rfl (by simp [IntKind.fits, IntKind.lim, IntKind.signed, IntKind.bits]; omega)) ?_
      refine TO.onP rfl (DP.to (v' := .bool false) (DP.leqI rfl rfl) (by simp; omega)) ?_
      refine TO.p (DP.pkT rfl (by conv => lhs; whnf)) ?_
      refine TO.p (DP.as (by conv => lhs; whnf)) ?_
      refine TO.nil ?_
      refine TQ.nn ?_
      refine T.ret ?_
      refine TQ.ret (vs := [.bool false]) (L' := [_]) rfl ⟨rfl, rfl⟩ ⟨rfl, rfl⟩ (by (refine Ent.imp ?_; repeat first | exact Imp.refl _ | exact Imp.nil _ | (apply Imp.pull; focus ((repeat first | exact Del.head _ _ | apply Del.tail); done)) | (apply Imp.row; focus ((repeat first | exact Del.head _ _ | apply Del.tail); done)) | apply Imp.drop))
    · refine TO.off rfl rfl ?_
      refine TO.off rfl rfl ?_
      refine TO.off rfl rfl ?_
      refine TO.off rfl rfl ?_
      refine TO.off rfl rfl ?_
      refine TO.off rfl rfl ?_
      refine TO.off rfl rfl ?_
      refine TO.off rfl rfl ?_
      refine TO.off rfl rfl ?_
      refine TO.off rfl rfl ?_
      refine TO.p (DP.pkF rfl (by conv => lhs; whnf)) ?_
      refine TO.p (DP.as (by conv => lhs; whnf)) ?_
      refine TO.nil ?_
      refine TQ.nn ?_
      refine T.ret ?_
      refine TQ.ret (vs := [.bool false]) (L' := [_]) rfl ⟨rfl, rfl⟩ ⟨rfl, rfl⟩ (by (refine Ent.imp ?_; repeat first | exact Imp.refl _ | exact Imp.nil _ | (apply Imp.pull; focus ((repeat first | exact Del.head _ _ | apply Del.tail); done)) | (apply Imp.row; focus ((repeat first | exact Del.head _ _ | apply Del.tail); done)) | apply Imp.drop))
  · refine TO.off rfl rfl ?_
    refine TO.off rfl rfl ?_
    refine TO.off rfl rfl ?_
    refine TO.off rfl rfl ?_
    refine TO.off rfl rfl ?_
    refine TO.off rfl rfl ?_
    refine TO.off rfl rfl ?_
    refine TO.p (DP.pkF rfl (by conv => lhs; whnf)) ?_
    refine TO.p (DP.mv (by conv => lhs; whnf)) ?_
    refine TO.off rfl rfl ?_
    refine TO.off rfl rfl ?_
    refine TO.off rfl rfl ?_
    refine TO.off rfl rfl ?_
    refine TO.off rfl rfl ?_
    refine TO.off rfl rfl ?_
    refine TO.off rfl rfl ?_
    refine TO.off rfl rfl ?_
    refine TO.off rfl rfl ?_
    refine TO.off rfl rfl ?_
    refine TO.p (DP.pkF rfl (by conv => lhs; whnf)) ?_
    refine TO.p (DP.as (by conv => lhs; whnf)) ?_
    refine TO.nil ?_
    refine TQ.nn ?_
    refine T.ret ?_
    refine TQ.ret (vs := [.bool false]) (L' := [_]) rfl ⟨rfl, rfl⟩ ⟨rfl, rfl⟩ (by (refine Ent.imp ?_; repeat first | exact Imp.refl _ | exact Imp.nil _ | (apply Imp.pull; focus ((repeat first | exact Del.head _ _ | apply Del.tail); done)) | (apply Imp.row; focus ((repeat first | exact Del.head _ _ | apply Del.tail); done)) | apply Imp.drop))

theorem rread_neg (r b lb at_ : Nat) (bs : List UInt8) (lt : List Bool) (n : Int) (hbs : bs.length ≤ 1048576) (hlt : lt.length = bs.length) (ha : at_ < 4294967296) (hn : n < 0) :
    Sat Try.prog 54 [.pointer (some ⟨r, 0, none⟩), .int .u32 at_, .int .i64 n] [row 63 r [.slice (some ⟨b, 0, none⟩) bs.length bs.length, .slice (some ⟨lb, 0, none⟩) lt.length lt.length], row 5 b (bs.map byteV), row 4 lb (lt.map boolV)] (fun u L' => u = .tuple #[str [], .int .i64 2] ∧ L' = [row 63 r [.slice (some ⟨b, 0, none⟩) bs.length bs.length, .slice (some ⟨lb, 0, none⟩) lt.length lt.length], row 5 b (bs.map byteV), row 4 lb (lt.map boolV)]) := by
  refine Sat.enter Try.func54 rfl Try.ntmps54 rfl (fun c R => ?_)
  try simp only [List.cons_append, List.nil_append]
  refine T.seq ?_
  refine T.reg ?_
  refine TO.p (DP.as (by conv => lhs; whnf)) ?_
  refine TO.p (DP.as (by conv => lhs; whnf)) ?_
  refine TO.nil ?_
  refine TQ.nn ?_
  refine T.seq ?_
  refine T.seq ?_
  refine T.reg ?_
  refine TO.p (DP.mv (by conv => lhs; whnf)) ?_
  refine TO.p (DP.lssI rfl rfl) ?_
  refine TO.nil ?_
  refine TQ.nn ?_
  refine T.condD rfl (fun hc0 => ?_) (fun hc0 => ?_)
  · refine T.seq ?_
    refine T.reg ?_
    refine TO.p (DP.as (by conv => lhs; whnf)) ?_
    refine TO.p (DP.as (by conv => lhs; whnf)) ?_
    refine TO.nil ?_
    refine TQ.nn ?_
    refine T.ret ?_
    refine TQ.nr ?_
    refine TQ.ret (vs := [str [], .int .i64 2]) (L' := [_, _, _]) rfl ⟨rfl, rfl, rfl⟩ ⟨rfl, rfl⟩ (by (refine Ent.imp ?_; repeat first | exact Imp.refl _ | exact Imp.nil _ | (apply Imp.pull; focus ((repeat first | exact Del.head _ _ | apply Del.tail); done)) | (apply Imp.row; focus ((repeat first | exact Del.head _ _ | apply Del.tail); done)) | apply Imp.drop))
  · exact absurd hn hc0

theorem rread_out (r b lb at_ : Nat) (bs : List UInt8) (lt : List Bool) (n : Int) (hbs : bs.length ≤ 1048576) (hlt : lt.length = bs.length) (ha : at_ < 4294967296) (hn : 0 ≤ n) (h : bs.length < at_ + n.toNat) :
    Sat Try.prog 54 [.pointer (some ⟨r, 0, none⟩), .int .u32 at_, .int .i64 n] [row 63 r [.slice (some ⟨b, 0, none⟩) bs.length bs.length, .slice (some ⟨lb, 0, none⟩) lt.length lt.length], row 5 b (bs.map byteV), row 4 lb (lt.map boolV)] (fun u L' => u = .tuple #[str [], .int .i64 10] ∧ L' = [row 63 r [.slice (some ⟨b, 0, none⟩) bs.length bs.length, .slice (some ⟨lb, 0, none⟩) lt.length lt.length], row 5 b (bs.map byteV), row 4 lb (lt.map boolV)]) := by
  refine Sat.enter Try.func54 rfl Try.ntmps54 rfl (fun c R => ?_)
  try simp only [List.cons_append, List.nil_append]
  refine T.seq ?_
  refine T.reg ?_
  refine TO.p (DP.as (by conv => lhs; whnf)) ?_
  refine TO.p (DP.as (by conv => lhs; whnf)) ?_
  refine TO.nil ?_
  refine TQ.nn ?_
  refine T.seq ?_
  refine T.seq ?_
  refine T.reg ?_
  refine TO.p (DP.mv (by conv => lhs; whnf)) ?_
  refine TO.p (DP.lssI rfl rfl) ?_
  refine TO.nil ?_
  refine TQ.nn ?_
  refine T.condD rfl (fun hc0 => ?_) (fun hc0 => ?_)
  · exact absurd hc0 (by omega)
  · refine T.skip ?_
    refine TQ.nn ?_
    refine T.seq ?_
    refine T.seq ?_
    refine T.reg ?_
    refine TO.p (DP.mv (by conv => lhs; whnf)) ?_
    refine TO.p (DP.mv (by conv => lhs; whnf)) ?_
    refine TO.p (DP.mv (by conv => lhs; whnf)) ?_
    refine TO.n (N.callF (rin_no r b bs.length at_ n _ hbs ha (.inr h)) Try.call53 ⟨rfl, rfl, rfl, trivial⟩ (by (repeat first | exact Pick.nil _ | (apply Pick.cons; focus ((repeat first | exact Del.head _ _ | apply Del.tail); done))))) ?_
    rintro u13 _ ⟨_, ⟨rfl, rfl⟩, rfl⟩
    try simp only [List.cons_append, List.nil_append]
    refine TO.p (DP.not rfl) ?_
    refine TO.nil ?_
    refine TQ.nn ?_
    refine T.condT rfl ?_
    refine T.seq ?_
    refine T.reg ?_
    refine TO.p (DP.as (by conv => lhs; whnf)) ?_
    refine TO.p (DP.as (by conv => lhs; whnf)) ?_
    refine TO.nil ?_
    refine TQ.nn ?_
    refine T.ret ?_
    refine TQ.nr ?_
    refine TQ.ret (vs := [str [], .int .i64 10]) (L' := [_, _, _]) rfl ⟨rfl, rfl, rfl⟩ ⟨rfl, rfl⟩ (by (refine Ent.imp ?_; repeat first | exact Imp.refl _ | exact Imp.nil _ | (apply Imp.pull; focus ((repeat first | exact Del.head _ _ | apply Del.tail); done)) | (apply Imp.row; focus ((repeat first | exact Del.head _ _ | apply Del.tail); done)) | apply Imp.drop))

theorem rread_ok (r b lb at_ : Nat) (bs : List UInt8) (lt : List Bool) (n : Nat) (hbs : bs.length ≤ 1048576) (hlt : lt.length = bs.length) (ha : at_ < 4294967296) (h : at_ + n ≤ bs.length) :
    Sat Try.prog 54 [.pointer (some ⟨r, 0, none⟩), .int .u32 at_, .int .i64 n] [row 63 r [.slice (some ⟨b, 0, none⟩) bs.length bs.length, .slice (some ⟨lb, 0, none⟩) lt.length lt.length], row 5 b (bs.map byteV), row 4 lb (lt.map boolV)] (fun u L' => u = .tuple #[str ((bs.drop at_).take n), .int .i64 0] ∧ L' = [row 63 r [.slice (some ⟨b, 0, none⟩) bs.length bs.length, .slice (some ⟨lb, 0, none⟩) lt.length lt.length], row 5 b (bs.map byteV), row 4 lb (lt.map boolV)]) := by
  refine Sat.enter Try.func54 rfl Try.ntmps54 rfl (fun c R => ?_)
  try simp only [List.cons_append, List.nil_append]
  refine T.seq ?_
  refine T.reg ?_
  refine TO.p (DP.as (by conv => lhs; whnf)) ?_
  refine TO.p (DP.as (by conv => lhs; whnf)) ?_
  refine TO.nil ?_
  refine TQ.nn ?_
  refine T.seq ?_
  refine T.seq ?_
  refine T.reg ?_
  refine TO.p (DP.mv (by conv => lhs; whnf)) ?_
  refine TO.p (DP.lss (b := 0) rfl rfl) ?_
  refine TO.nil ?_
  refine TQ.nn ?_
  refine T.condD rfl (fun hc0 => ?_) (fun hc0 => ?_)
  · exact absurd hc0 (by omega)
  · refine T.skip ?_
    refine TQ.nn ?_
    refine T.seq ?_
    refine T.seq ?_
    refine T.reg ?_
    refine TO.p (DP.mv (by conv => lhs; whnf)) ?_
    refine TO.p (DP.mv (by conv => lhs; whnf)) ?_
    refine TO.p (DP.mv (by conv => lhs; whnf)) ?_
    refine TO.n (N.callF (rin_yes r b bs.length at_ n _ hbs ha h) Try.call53 ⟨rfl, rfl, rfl, trivial⟩ (by (repeat first | exact Pick.nil _ | (apply Pick.cons; focus ((repeat first | exact Del.head _ _ | apply Del.tail); done))))) ?_
    rintro u13 _ ⟨_, ⟨rfl, rfl⟩, rfl⟩
    try simp only [List.cons_append, List.nil_append]
    refine TO.p (DP.not rfl) ?_
    refine TO.nil ?_
    refine TQ.nn ?_
    refine T.condF rfl ?_
    refine T.skip ?_
    refine TQ.nn ?_
    refine T.seq ?_
    refine T.reg ?_
    refine TO.p (DP.mv (by conv => lhs; whnf)) ?_
    refine TO.p (DP.nck rfl) ?_
    refine TO.p (DP.fa 0 rfl Try.underlying63 rfl rfl sz49) ?_
    refine TO.d (D.ldR rfl pl49 (by (repeat first | exact LMem.head _ _ | apply LMem.tail)) (by rfl)) ?_
    refine TO.p (DP.mv (by conv => lhs; whnf)) ?_
    refine TO.p (DP.mv (by conv => lhs; whnf)) ?_
    refine TO.p (DP.cv rfl is30 Try.underlying3 (l := 9223372036854775808) rfl (by omega)) ?_
    refine TO.p (DP.mv (by conv => lhs; whnf)) ?_
    refine TO.p (DP.add rfl rfl (l := 9223372036854775808) rfl (by omega)) ?_
    refine TO.p (DP.to (v' := .slice (some ⟨b, if bs.length - at_ = 0 then 0 else at_, none⟩) n (bs.length - at_)) (DP.slS (n := 0) rfl rfl rfl Try.underlying49 sz5 (by omega) (by omega)) (by by_cases h0 : bs.length - at_ = 0 <;> simp [h0] <;> omega)) ?_
    refine TO.d (D.cbs (l := (bs.drop at_).take n) (A := row 5 b (bs.map byteV)) rfl Try.underlying49 Try.underlying9 Try.underlying5 (len_part h) (by (repeat first | exact LMem.head _ _ | apply LMem.tail)) (ReadsN.row (fun i v hv => by have hv2 := rd_part i v hv; rcases Nat.eq_zero_or_pos n with h0 | h0; (subst h0; simp at hv); (rw [if_neg (by omega)] at hv2; rw [if_neg (by omega)]; exact hv2)))) ?_
    refine TO.p (DP.as (by conv => lhs; whnf)) ?_
    refine TO.p (DP.as (by conv => lhs; whnf)) ?_
    refine TO.nil ?_
    refine TQ.nn ?_
    refine T.ret ?_
    refine TQ.ret (vs := [str ((bs.drop at_).take n), .int .i64 0]) (L' := [_, _, _]) rfl ⟨rfl, rfl, rfl⟩ ⟨rfl, rfl⟩ (by (refine Ent.imp ?_; repeat first | exact Imp.refl _ | exact Imp.nil _ | (apply Imp.pull; focus ((repeat first | exact Del.head _ _ | apply Del.tail); done)) | (apply Imp.row; focus ((repeat first | exact Del.head _ _ | apply Del.tail); done)) | apply Imp.drop))

theorem rvalue (s : List UInt8) (hs : s.length ≤ 8) :
    Sat Try.prog 75 [str s] [] (fun u L' => u = .int .u64 (leN s : Nat) ∧ L' = []) := by
  refine Sat.enter Try.func75 rfl Try.ntmps75 rfl (fun c R => ?_)
  try simp only [List.cons_append, List.nil_append]
  have hll := leN_lt s
  refine T.seq ?_
  refine T.reg ?_
  refine TO.p (DP.as (by conv => lhs; whnf)) ?_
  refine TO.nil ?_
  refine TQ.nn ?_
  refine T.seq ?_
  refine T.reg ?_
  refine TO.p (DP.as (by conv => lhs; whnf)) ?_
  refine TO.nil ?_
  refine TQ.nn ?_
  refine T.seq ?_
  refine T.seq ?_
  refine T.reg ?_
  refine TO.p (DP.mv (by conv => lhs; whnf)) ?_
  refine TO.p (DP.lenT rfl Try.underlying9) ?_
  refine TO.p (DP.subI rfl rfl (by simp [IntKind.fits, IntKind.lim, IntKind.signed, IntKind.bits]; omega)) ?_
  refine TO.p (DP.as (by conv => lhs; whnf)) ?_
  refine TO.nil ?_
  refine TQ.nn ?_
  refine T.block ?_
  refine T.loop (S := Nat) s.length (fun i => [(0, str s), (3, .int .u64 (leN (s.drop i) : Nat)), (4, .int .i64 ((i : Int) - 1))]) (fun i => R) (fun i => i ≤ s.length) (fun i => i) ?_ ?_ ?_ ?_
  · (refine ⟨rfl, by rw [List.drop_length]; rfl, rfl, trivial⟩)
  · (first | trivial | omega | simp)
  · exact Ent.refl _ _
  rintro i g hI
  refine T.seq ?_
  refine T.seq ?_
  refine T.reg ?_
  refine TO.p (DP.mv (by conv => lhs; whnf)) ?_
  refine TO.p (DP.geqI rfl rfl) ?_
  refine TO.nil ?_
  refine TQ.nn ?_
  refine T.condD rfl (fun hc0 => ?_) (fun hc0 => ?_)
  · obtain ⟨j, rfl⟩ : ∃ j, i = j + 1 := ⟨i - 1, by omega⟩
    obtain ⟨x, hx⟩ := get_some (l := s) (i := j) (by omega)
    have hxl := x.toNat_lt
    have hd : leN (s.drop j) = x.toNat + 256 * leN (s.drop (j + 1)) := by
      have h1 : s.drop j = x :: s.drop (j + 1) := by
        have hjl : j < s.length := by omega
        rw [List.getElem?_eq_getElem hjl] at hx; simp at hx
        rw [List.drop_eq_getElem_cons hjl, hx]
      rw [h1]; rfl
    have hlt := leN_lt (s.drop (j + 1))
    have hpw : (256 : Nat) ^ (s.drop (j + 1)).length ≤ 256 ^ 7 := Nat.pow_le_pow_right (by omega) (by simp; omega)
    have hnx : leN (s.drop j) = leN (s.drop (j + 1)) * 2 ^ 8 % 2 ^ 64 ||| x.toNat := by
      rw [hd, Nat.mod_eq_of_lt (by omega), Nat.mul_comm _ (2 ^ 8), ← Nat.two_pow_add_eq_or_of_lt (by omega)]; omega
    have hj1 : ((j + 1 : Nat) : Int) - 1 = (j : Int) := by omega
    refine T.skip ?_
    refine TQ.nn ?_
    refine T.seq ?_
    refine T.block ?_
    refine T.reg ?_
    refine TO.p (DP.mv (by conv => lhs; whnf)) ?_
    refine TO.p (DP.shl (b := 8) rfl rfl rfl (l := 2 ^ 64) rfl) ?_
    refine TO.p (DP.mv (by conv => lhs; whnf)) ?_
    refine TO.p (DP.mv (by conv => lhs; whnf)) ?_
    refine TO.p (DP.ixT (i := j) rfl (by rw [← hj1]; rfl) Try.underlying9 hx) ?_
    refine TO.p (DP.cv (a := x.toNat) rfl is5 Try.underlying31 (l := 18446744073709551616) rfl (by omega)) ?_
    refine TO.p (DP.bor rfl rfl (l := 2 ^ 64) rfl (Nat.mod_lt _ (by decide)) (by omega)) ?_
    refine TO.p (DP.as (by conv => lhs; whnf)) ?_
    refine TO.nil ?_
    refine TQ.bn ?_
    refine TQ.nn ?_
    refine T.reg ?_
    refine TO.p (DP.mv (by conv => lhs; whnf)) ?_
    refine TO.p (DP.subI rfl rfl (by simp [IntKind.fits, IntKind.lim, IntKind.signed, IntKind.bits]; omega)) ?_
    refine TO.p (DP.as (by conv => lhs; whnf)) ?_
    refine TO.nil ?_
    refine TQ.round j rfl ?_ ?_ ?_ ?_
    · exact ⟨rfl, by rw [hnx]; rfl, by rw [hj1]; rfl, trivial⟩
    · omega
    · omega
    · exact Ent.refl _ _
  · obtain rfl : i = 0 := by omega
    refine T.exit ?_
    refine TQ.ne ?_
    refine TQ.le ?_
    refine TQ.be ?_
    refine TQ.nn ?_
    refine T.seq ?_
    refine T.reg ?_
    refine TO.p (DP.mv (by conv => lhs; whnf)) ?_
    refine TO.p (DP.as (by conv => lhs; whnf)) ?_
    refine TO.nil ?_
    refine TQ.nn ?_
    refine T.ret ?_
    refine TQ.ret (vs := [.int .u64 (leN s : Nat)]) (L' := []) rfl ⟨rfl, rfl⟩ ⟨rfl, rfl⟩ (by (refine Ent.imp ?_; repeat first | exact Imp.refl _ | exact Imp.nil _ | (apply Imp.pull; focus ((repeat first | exact Del.head _ _ | apply Del.tail); done)) | (apply Imp.row; focus ((repeat first | exact Del.head _ _ | apply Del.tail); done)) | apply Imp.drop))

theorem rnum_ok (r b lb at_ : Nat) (bs : List UInt8) (lt : List Bool) (n : Nat) (hbs : bs.length ≤ 1048576) (hlt : lt.length = bs.length) (ha : at_ < 4294967296) (hn : n ≤ 8) (h : at_ + n ≤ bs.length) :
    Sat Try.prog 56 [.pointer (some ⟨r, 0, none⟩), .int .u32 at_, .int .i64 n] [row 63 r [.slice (some ⟨b, 0, none⟩) bs.length bs.length, .slice (some ⟨lb, 0, none⟩) lt.length lt.length], row 5 b (bs.map byteV), row 4 lb (lt.map boolV)] (fun u L' => u = .tuple #[.int .u64 (leN ((bs.drop at_).take n) : Nat), .int .i64 0] ∧ L' = [row 63 r [.slice (some ⟨b, 0, none⟩) bs.length bs.length, .slice (some ⟨lb, 0, none⟩) lt.length lt.length], row 5 b (bs.map byteV), row 4 lb (lt.map boolV)]) := by
  refine Sat.enter Try.func56 rfl Try.ntmps56 rfl (fun c R => ?_)
  try simp only [List.cons_append, List.nil_append]
  refine T.seq ?_
  refine T.reg ?_
  refine TO.p (DP.as (by conv => lhs; whnf)) ?_
  refine TO.p (DP.as (by conv => lhs; whnf)) ?_
  refine TO.nil ?_
  refine TQ.nn ?_
  refine T.seq ?_
  refine T.reg ?_
  refine TO.p (DP.mv (by conv => lhs; whnf)) ?_
  refine TO.p (DP.mv (by conv => lhs; whnf)) ?_
  refine TO.p (DP.mv (by conv => lhs; whnf)) ?_
  refine TO.n (N.callF (rread_ok r b lb at_ bs lt n hbs hlt ha h) Try.call54 ⟨rfl, rfl, rfl, trivial⟩ (by (repeat first | exact Pick.nil _ | (apply Pick.cons; focus ((repeat first | exact Del.head _ _ | apply Del.tail); done))))) ?_
  rintro u14 _ ⟨_, ⟨rfl, rfl⟩, rfl⟩
  try simp only [List.cons_append, List.nil_append]
  refine TO.p (DP.mv (by conv => lhs; whnf)) ?_
  refine TO.p (DP.ex rfl rfl) ?_
  refine TO.p (DP.ex rfl rfl) ?_
  refine TO.p (DP.as (by conv => lhs; whnf)) ?_
  refine TO.p (DP.as (by conv => lhs; whnf)) ?_
  refine TO.nil ?_
  refine TQ.nn ?_
  refine T.seq ?_
  refine T.reg ?_
  refine TO.p (DP.mv (by conv => lhs; whnf)) ?_
  refine TO.n (N.callF (rvalue ((bs.drop at_).take n) (by rw [len_part h]; exact hn)) Try.call75 ⟨rfl, trivial⟩ (by (repeat first | exact Pick.nil _ | (apply Pick.cons; focus ((repeat first | exact Del.head _ _ | apply Del.tail); done))))) ?_
  rintro u18 _ ⟨_, ⟨rfl, rfl⟩, rfl⟩
  try simp only [List.cons_append, List.nil_append]
  refine TO.p (DP.mv (by conv => lhs; whnf)) ?_
  refine TO.p (DP.as (by conv => lhs; whnf)) ?_
  refine TO.p (DP.as (by conv => lhs; whnf)) ?_
  refine TO.nil ?_
  refine TQ.nn ?_
  refine T.ret ?_
  refine TQ.ret (vs := [_, .int .i64 0]) (L' := [_, _, _]) rfl ⟨rfl, rfl, rfl⟩ ⟨rfl, rfl⟩ (by (refine Ent.imp ?_; repeat first | exact Imp.refl _ | exact Imp.nil _ | (apply Imp.pull; focus ((repeat first | exact Del.head _ _ | apply Del.tail); done)) | (apply Imp.row; focus ((repeat first | exact Del.head _ _ | apply Del.tail); done)) | apply Imp.drop))

theorem rnum_out (r b lb at_ : Nat) (bs : List UInt8) (lt : List Bool) (n : Nat) (hbs : bs.length ≤ 1048576) (hlt : lt.length = bs.length) (ha : at_ < 4294967296) (hn : n ≤ 8) (h : bs.length < at_ + n) :
    Sat Try.prog 56 [.pointer (some ⟨r, 0, none⟩), .int .u32 at_, .int .i64 n] [row 63 r [.slice (some ⟨b, 0, none⟩) bs.length bs.length, .slice (some ⟨lb, 0, none⟩) lt.length lt.length], row 5 b (bs.map byteV), row 4 lb (lt.map boolV)] (fun u L' => u = .tuple #[.int .u64 (0 : Nat), .int .i64 10] ∧ L' = [row 63 r [.slice (some ⟨b, 0, none⟩) bs.length bs.length, .slice (some ⟨lb, 0, none⟩) lt.length lt.length], row 5 b (bs.map byteV), row 4 lb (lt.map boolV)]) := by
  refine Sat.enter Try.func56 rfl Try.ntmps56 rfl (fun c R => ?_)
  try simp only [List.cons_append, List.nil_append]
  refine T.seq ?_
  refine T.reg ?_
  refine TO.p (DP.as (by conv => lhs; whnf)) ?_
  refine TO.p (DP.as (by conv => lhs; whnf)) ?_
  refine TO.nil ?_
  refine TQ.nn ?_
  refine T.seq ?_
  refine T.reg ?_
  refine TO.p (DP.mv (by conv => lhs; whnf)) ?_
  refine TO.p (DP.mv (by conv => lhs; whnf)) ?_
  refine TO.p (DP.mv (by conv => lhs; whnf)) ?_
  refine TO.n (N.callF (rread_out r b lb at_ bs lt n hbs hlt ha (by omega) (by omega)) Try.call54 ⟨rfl, rfl, rfl, trivial⟩ (by (repeat first | exact Pick.nil _ | (apply Pick.cons; focus ((repeat first | exact Del.head _ _ | apply Del.tail); done))))) ?_
  rintro u14 _ ⟨_, ⟨rfl, rfl⟩, rfl⟩
  try simp only [List.cons_append, List.nil_append]
  refine TO.p (DP.mv (by conv => lhs; whnf)) ?_
  refine TO.p (DP.ex rfl rfl) ?_
  refine TO.p (DP.ex rfl rfl) ?_
  refine TO.p (DP.as (by conv => lhs; whnf)) ?_
  refine TO.p (DP.as (by conv => lhs; whnf)) ?_
  refine TO.nil ?_
  refine TQ.nn ?_
  refine T.seq ?_
  refine T.reg ?_
  refine TO.p (DP.mv (by conv => lhs; whnf)) ?_
  refine TO.n (N.callF (rvalue [] (by simp)) Try.call75 ⟨rfl, trivial⟩ (by (repeat first | exact Pick.nil _ | (apply Pick.cons; focus ((repeat first | exact Del.head _ _ | apply Del.tail); done))))) ?_
  rintro u18 _ ⟨_, ⟨rfl, rfl⟩, rfl⟩
  try simp only [List.cons_append, List.nil_append]
  refine TO.p (DP.mv (by conv => lhs; whnf)) ?_
  refine TO.p (DP.as (by conv => lhs; whnf)) ?_
  refine TO.p (DP.as (by conv => lhs; whnf)) ?_
  refine TO.nil ?_
  refine TQ.nn ?_
  refine T.ret ?_
  refine TQ.ret (vs := [.int .u64 (0 : Nat), .int .i64 10]) (L' := [_, _, _]) rfl ⟨rfl, rfl, rfl⟩ ⟨rfl, rfl⟩ (by (refine Ent.imp ?_; repeat first | exact Imp.refl _ | exact Imp.nil _ | (apply Imp.pull; focus ((repeat first | exact Del.head _ _ | apply Del.tail); done)) | (apply Imp.row; focus ((repeat first | exact Del.head _ _ | apply Del.tail); done)) | apply Imp.drop))

theorem rbytes (x n : Nat) (hx : x < 18446744073709551616) (hn : n ≤ 8) (hn0 : 0 < n) :
    Sat Try.prog 59 [.int .u64 x, .int .i64 n] [] (fun u L' => u = str (leB x n) ∧ L' = []) := by
  refine Sat.enter Try.func59 rfl Try.ntmps59 rfl (fun c R => ?_)
  try simp only [List.cons_append, List.nil_append]
  refine T.seq ?_
  refine T.reg ?_
  refine TO.p (DP.as (by conv => lhs; whnf)) ?_
  refine TO.nil ?_
  refine TQ.nn ?_
  refine T.seq ?_
  refine T.reg ?_
  refine TO.p (DP.mv (by conv => lhs; whnf)) ?_
  refine TO.n (N.mk rfl rfl Try.underlying49 sz5 by5 zr5 rfl rfl (by omega)) ?_
  rintro _ _ ⟨b8, rfl, rfl⟩
  have hfl : (List.replicate n [Value.int .u8 0]).flatten = (leB x 0 ++ List.replicate (n - 0) 0).map byteV := by rw [← leB_zero]; simp
  rw [hfl]
  refine TO.p (DP.as (by conv => lhs; whnf)) ?_
  refine TO.nil ?_
  refine TQ.nn ?_
  refine T.seq ?_
  refine T.seq ?_
  refine T.reg ?_
  refine TO.p (DP.as (by conv => lhs; whnf)) ?_
  refine TO.nil ?_
  refine TQ.nn ?_
  refine T.block ?_
  refine T.loop (S := Nat) 0 (fun i => [(0, .int .u64 x), (1, .int .i64 (n : Nat)), (5, .slice (some ⟨b8, 0, none⟩) n n), (6, .int .i64 (i : Nat))]) (fun i => row 5 b8 ((leB x i ++ List.replicate (n - i) 0).map byteV) :: R) (fun i => i ≤ n) (fun i => n - i) ?_ ?_ ?_ ?_
  · (repeat first | exact trivial | refine ⟨rfl, ?_⟩)
  · (first | trivial | omega | simp)
  · exact Ent.refl _ _
  rintro i g hI
  refine T.seq ?_
  refine T.seq ?_
  refine T.reg ?_
  refine TO.p (DP.mv (by conv => lhs; whnf)) ?_
  refine TO.p (DP.mv (by conv => lhs; whnf)) ?_
  refine TO.p (DP.lss rfl rfl) ?_
  refine TO.nil ?_
  refine TQ.nn ?_
  refine T.condD rfl (fun hc0 => ?_) (fun hc0 => ?_)
  · refine T.skip ?_
    refine TQ.nn ?_
    refine T.seq ?_
    refine T.block ?_
    refine T.reg ?_
    refine TO.p (DP.mv (by conv => lhs; whnf)) ?_
    refine TO.p (DP.mv (by conv => lhs; whnf)) ?_
    refine TO.p (DP.mv (by conv => lhs; whnf)) ?_
    refine TO.p (DP.mv (by conv => lhs; whnf)) ?_
    refine TO.p (DP.mul (a := 8) rfl rfl (l := 9223372036854775808) rfl (by omega)) ?_
    refine TO.p (DP.cv rfl is3 Try.underlying107 (l := 18446744073709551616) rfl (by omega)) ?_
    refine TO.p (DP.shr rfl rfl (l := 18446744073709551616) rfl (by omega)) ?_
    refine TO.p (DP.cvW rfl is31 Try.underlying5 rfl (l := 256) rfl) ?_
    refine TO.p (DP.to (v' := .pointer (some ⟨b8, i, none⟩)) (DP.ias rfl rfl Try.underlying49 sz5 (by omega)) (by simp)) ?_
    refine TO.n0 (N.st (et := 5) rfl (by conv => lhs; whnf) sz5 (by (repeat first | exact Put.head _ _ _ | apply Put.tail)) (by rw [List.length_map, List.length_append, leB_len]; simp; omega) rfl) ?_
    rintro _ _ ⟨rfl, rfl⟩
    refine TO.nil ?_
    refine TQ.bn ?_
    refine TQ.nn ?_
    refine T.reg ?_
    refine TO.p (DP.mv (by conv => lhs; whnf)) ?_
    refine TO.p (DP.add (b := 1) rfl rfl (l := 9223372036854775808) rfl (by omega)) ?_
    refine TO.p (DP.as (by conv => lhs; whnf)) ?_
    refine TO.nil ?_
    refine TQ.round (i + 1) rfl ?_ ?_ ?_ ?_
    · (repeat first | exact trivial | refine ⟨rfl, ?_⟩)
    · omega
    · omega
    · (rw [← leB_set (by omega)]; exact Ent.refl _ _)
  · obtain rfl : i = n := by omega
    refine T.exit ?_
    refine TQ.ne ?_
    refine TQ.le ?_
    refine TQ.be ?_
    refine TQ.nn ?_
    refine T.seq ?_
    refine T.reg ?_
    refine TO.p (DP.mv (by conv => lhs; whnf)) ?_
    refine TO.d (D.cbs (l := leB x i) (A := row 5 b8 _) rfl Try.underlying49 Try.underlying9 Try.underlying5 (leB_len _ _) (by (repeat first | exact LMem.head _ _ | apply LMem.tail)) (ReadsN.row (fun j v hv => by simpa using hv))) ?_
    refine TO.p (DP.as (by conv => lhs; whnf)) ?_
    refine TO.nil ?_
    refine TQ.nn ?_
    refine T.ret ?_
    refine TQ.ret (vs := [str (leB x i)]) (L' := []) rfl ⟨rfl, rfl⟩ ⟨rfl, rfl⟩ (by (refine Ent.imp ?_; repeat first | exact Imp.refl _ | exact Imp.nil _ | (apply Imp.pull; focus ((repeat first | exact Del.head _ _ | apply Del.tail); done)) | (apply Imp.row; focus ((repeat first | exact Del.head _ _ | apply Del.tail); done)) | apply Imp.drop))

theorem rall (r b lb at_ : Nat) (bs : List UInt8) (lt : List Bool) (m : Nat) (x : Bool) (hbs : bs.length ≤ 1048576) (hlt : lt.length = bs.length) (ha : at_ < 4294967296) (h : at_ + m ≤ lt.length) :
    Sat Try.prog 79 [.pointer (some ⟨r, 0, none⟩), .int .u32 at_, .int .i64 m, .bool x] [row 63 r [.slice (some ⟨b, 0, none⟩) bs.length bs.length, .slice (some ⟨lb, 0, none⟩) lt.length lt.length], row 5 b (bs.map byteV), row 4 lb (lt.map boolV)] (fun u L' => u = .bool (allB lt at_ m x) ∧ L' = [row 63 r [.slice (some ⟨b, 0, none⟩) bs.length bs.length, .slice (some ⟨lb, 0, none⟩) lt.length lt.length], row 5 b (bs.map byteV), row 4 lb (lt.map boolV)]) := by
  refine Sat.enter Try.func79 rfl Try.ntmps79 rfl (fun c R => ?_)
  try simp only [List.cons_append, List.nil_append]
  refine T.seq ?_
  refine T.reg ?_
  refine TO.p (DP.as (by conv => lhs; whnf)) ?_
  refine TO.nil ?_
  refine TQ.nn ?_
  refine T.seq ?_
  refine T.seq ?_
  refine T.reg ?_
  refine TO.p (DP.as (by conv => lhs; whnf)) ?_
  refine TO.nil ?_
  refine TQ.nn ?_
  refine T.block ?_
  refine T.loop (S := Nat) 0 (fun i => [(0, .pointer (some ⟨r, 0, none⟩)), (1, .int .u32 at_), (2, .int .i64 (m : Nat)), (3, .bool x), (9, .int .i64 (i : Nat))]) (fun i => row 63 r [.slice (some ⟨b, 0, none⟩) bs.length bs.length, .slice (some ⟨lb, 0, none⟩) lt.length lt.length] :: row 5 b (bs.map byteV) :: row 4 lb (lt.map boolV) :: R) (fun i => i ≤ m ∧ ∀ k, at_ ≤ k → k < at_ + i → lt[k]? = some x) (fun i => m - i) ?_ ?_ ?_ ?_
  · (repeat first | exact trivial | refine ⟨rfl, ?_⟩)
  · exact ⟨Nat.zero_le _, fun k h1 h2 => by omega⟩
  · exact Ent.refl _ _
  rintro i g hI
  refine T.seq ?_
  refine T.seq ?_
  refine T.reg ?_
  refine TO.p (DP.mv (by conv => lhs; whnf)) ?_
  refine TO.p (DP.mv (by conv => lhs; whnf)) ?_
  refine TO.p (DP.lss rfl rfl) ?_
  refine TO.nil ?_
  refine TQ.nn ?_
  refine T.condD rfl (fun hc0 => ?_) (fun hc0 => ?_)
  · obtain ⟨y, hy⟩ := get_some (l := lt) (i := at_ + i) (by omega)
    refine T.skip ?_
    refine TQ.nn ?_
    refine T.seq ?_
    refine T.block ?_
    refine T.seq ?_
    refine T.reg ?_
    refine TO.p (DP.mv (by conv => lhs; whnf)) ?_
    refine TO.p (DP.nck rfl) ?_
    refine TO.p (DP.fa 1 rfl Try.underlying63 rfl rfl sz61) ?_
    refine TO.d (D.ldR rfl pl61 (by (repeat first | exact LMem.head _ _ | apply LMem.tail)) (by rfl)) ?_
    refine TO.p (DP.mv (by conv => lhs; whnf)) ?_
    refine TO.p (DP.cv rfl is30 Try.underlying3 (l := 9223372036854775808) rfl (by omega)) ?_
    refine TO.p (DP.mv (by conv => lhs; whnf)) ?_
    refine TO.p (DP.add rfl rfl (l := 9223372036854775808) rfl (by omega)) ?_
    refine TO.p (DP.to (v' := .pointer (some ⟨lb, at_ + i, none⟩)) (DP.ias rfl rfl Try.underlying61 sz4 (by omega)) (by simp)) ?_
    refine TO.d (D.ldR (v := .bool y) rfl pl4 (by (repeat first | exact LMem.head _ _ | apply LMem.tail)) (map_bool hy)) ?_
    refine TO.p (DP.mv (by conv => lhs; whnf)) ?_
    refine TO.p (DP.bneq rfl rfl Try.underlying4) ?_
    refine TO.nil ?_
    refine TQ.nn ?_
    refine T.condB rfl (fun hc1 => ?_) (fun hc1 => ?_)
    · refine T.seq ?_
      refine T.reg ?_
      refine TO.p (DP.as (by conv => lhs; whnf)) ?_
      refine TO.nil ?_
      refine TQ.nn ?_
      refine T.ret ?_
      refine TQ.br ?_
      refine TQ.nr ?_
      refine TQ.lr ?_
      refine TQ.br ?_
      refine TQ.nr ?_
      refine TQ.ret (vs := [.bool false]) (L' := [_, _, _]) rfl ⟨rfl, rfl⟩ ⟨by rw [show allB lt at_ m x = false from by rcases hq : allB lt at_ m x with _ | _; rfl; have h5 := (allB_iff h).1 hq (at_ + i) (by omega) (by omega); rw [hy] at h5; simp at h5; subst h5; simp at hc1]; rfl, rfl⟩ (by (refine Ent.imp ?_; repeat first | exact Imp.refl _ | exact Imp.nil _ | (apply Imp.pull; focus ((repeat first | exact Del.head _ _ | apply Del.tail); done)) | (apply Imp.row; focus ((repeat first | exact Del.head _ _ | apply Del.tail); done)) | apply Imp.drop))
    · refine T.skip ?_
      refine TQ.bn ?_
      refine TQ.nn ?_
      refine T.reg ?_
      refine TO.p (DP.mv (by conv => lhs; whnf)) ?_
      refine TO.p (DP.add (b := 1) rfl rfl (l := 9223372036854775808) rfl (by omega)) ?_
      refine TO.p (DP.as (by conv => lhs; whnf)) ?_
      refine TO.nil ?_
      refine TQ.round (i + 1) rfl ?_ ?_ ?_ ?_
      · (repeat first | exact trivial | refine ⟨rfl, ?_⟩)
      · exact ⟨by omega, fun k h1 h2 => by rcases Nat.lt_or_ge k (at_ + i) with h3 | h3; exact hI.2 k h1 h3; (rw [show k = at_ + i by omega, hy]; cases x <;> cases y <;> first | rfl | cases hc1)⟩
      · omega
      · exact Ent.refl _ _
  · refine T.exit ?_
    refine TQ.ne ?_
    refine TQ.le ?_
    refine TQ.be ?_
    refine TQ.nn ?_
    refine T.seq ?_
    refine T.reg ?_
    refine TO.p (DP.as (by conv => lhs; whnf)) ?_
    refine TO.nil ?_
    refine TQ.nn ?_
    refine T.ret ?_
    refine TQ.ret (vs := [.bool true]) (L' := [_, _, _]) rfl ⟨rfl, rfl⟩ ⟨by rw [show allB lt at_ m x = true from (allB_iff h).2 fun k h1 h2 => hI.2 k h1 (by omega)]; rfl, rfl⟩ (by (refine Ent.imp ?_; repeat first | exact Imp.refl _ | exact Imp.nil _ | (apply Imp.pull; focus ((repeat first | exact Del.head _ _ | apply Del.tail); done)) | (apply Imp.row; focus ((repeat first | exact Del.head _ _ | apply Del.tail); done)) | apply Imp.drop))
end Go.Proofs.Ytpidkdkbgjnhlaa
