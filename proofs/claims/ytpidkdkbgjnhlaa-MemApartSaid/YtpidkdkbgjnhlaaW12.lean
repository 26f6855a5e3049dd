/- Lemmas for the proofs of this seat: no statement of the seat is claimed here. -/
import Derived.Test.YtpidkdkbgjnhlaaW11
set_option linter.all false
namespace Go.Proofs.Ytpidkdkbgjnhlaa
open Go Pw
set_option maxRecDepth 20000
set_option maxHeartbeats 4000000
theorem rput_out (r b lb at_ : Nat) (bs : List UInt8) (lt : List Bool) (s : List UInt8) (x : Bool) (e : Nat) (hbs : bs.length ≤ 1048576) (hlt : lt.length = bs.length) (ha : at_ < 4294967296) (h : bs.length < at_ + s.length) :
    Sat Try.prog 76 [.pointer (some ⟨r, 0, none⟩), .int .u32 at_, str s, .bool x, .int .i64 e] [row 63 r [.slice (some ⟨b, 0, none⟩) bs.length bs.length, .slice (some ⟨lb, 0, none⟩) lt.length lt.length], row 5 b (bs.map byteV), row 4 lb (lt.map boolV)] (fun u L' => u = .int .i64 10 ∧ L' = [row 63 r [.slice (some ⟨b, 0, none⟩) bs.length bs.length, .slice (some ⟨lb, 0, none⟩) lt.length lt.length], row 5 b (bs.map byteV), row 4 lb (lt.map boolV)]) := by
  refine Sat.enter Try.func76 rfl Try.ntmps76 rfl (fun c R => ?_)
  try simp only [List.cons_append, List.nil_append]
  refine T.seq ?_
  refine T.reg ?_
  refine TO.p (DP.as (by conv => lhs; whnf)) ?_
  refine TO.nil ?_
  refine TQ.nn ?_
  refine T.seq ?_
  refine T.seq ?_
  refine T.reg ?_
  refine TO.p (DP.mv (by conv => lhs; whnf)) ?_
  refine TO.p (DP.mv (by conv => lhs; whnf)) ?_
  refine TO.p (DP.mv (by conv => lhs; whnf)) ?_
  refine TO.p (DP.lenT rfl Try.underlying9) ?_
  refine TO.n (N.callF (rin_no r b bs.length at_ s.length _ hbs ha (.inr (by omega))) Try.call53 ⟨rfl, rfl, rfl, trivial⟩ (by (repeat first | exact Pick.nil _ | (apply Pick.cons; focus ((repeat first | exact Del.head _ _ | apply Del.tail); done))))) ?_
  rintro u16 _ ⟨_, ⟨rfl, rfl⟩, rfl⟩
  try simp only [List.cons_append, List.nil_append]
  refine TO.p (DP.not rfl) ?_
  refine TO.nil ?_
  refine TQ.nn ?_
  refine T.condT rfl ?_
  refine T.seq ?_
  refine T.reg ?_
  refine TO.p (DP.as (by conv => lhs; whnf)) ?_
  refine TO.nil ?_
  refine TQ.nn ?_
  refine T.ret ?_
  refine TQ.nr ?_
  refine TQ.ret (vs := [.int .i64 10]) (L' := [_, _, _]) rfl ⟨rfl, rfl⟩ ⟨rfl, rfl⟩ (by (refine Ent.imp ?_; repeat first | exact Imp.refl _ | exact Imp.nil _ | (apply Imp.pull; focus ((repeat first | exact Del.head _ _ | apply Del.tail); done)) | (apply Imp.row; focus ((repeat first | exact Del.head _ _ | apply Del.tail); done)) | apply Imp.drop))

theorem rput_bad (r b lb at_ : Nat) (bs : List UInt8) (lt : List Bool) (s : List UInt8) (x : Bool) (e : Nat) (hbs : bs.length ≤ 1048576) (hlt : lt.length = bs.length) (ha : at_ < 4294967296) (h : at_ + s.length ≤ bs.length) (hs : allB lt at_ s.length x = false) :
    Sat Try.prog 76 [.pointer (some ⟨r, 0, none⟩), .int .u32 at_, str s, .bool x, .int .i64 e] [row 63 r [.slice (some ⟨b, 0, none⟩) bs.length bs.length, .slice (some ⟨lb, 0, none⟩) lt.length lt.length], row 5 b (bs.map byteV), row 4 lb (lt.map boolV)] (fun u L' => u = .int .i64 e ∧ L' = [row 63 r [.slice (some ⟨b, 0, none⟩) bs.length bs.length, .slice (some ⟨lb, 0, none⟩) lt.length lt.length], row 5 b (bs.map byteV), row 4 lb (lt.map boolV)]) := by
  refine Sat.enter Try.func76 rfl Try.ntmps76 rfl (fun c R => ?_)
  try simp only [List.cons_append, List.nil_append]
  refine T.seq ?_
  refine T.reg ?_
  refine TO.p (DP.as (by conv => lhs; whnf)) ?_
  refine TO.nil ?_
  refine TQ.nn ?_
  refine T.seq ?_
  refine T.seq ?_
  refine T.reg ?_
  refine TO.p (DP.mv (by conv => lhs; whnf)) ?_
  refine TO.p (DP.mv (by conv => lhs; whnf)) ?_
  refine TO.p (DP.mv (by conv => lhs; whnf)) ?_
  refine TO.p (DP.lenT rfl Try.underlying9) ?_
  refine TO.n (N.callF (rin_yes r b bs.length at_ s.length _ hbs ha h) Try.call53 ⟨rfl, rfl, rfl, trivial⟩ (by (repeat first | exact Pick.nil _ | (apply Pick.cons; focus ((repeat first | exact Del.head _ _ | apply Del.tail); done))))) ?_
  rintro u16 _ ⟨_, ⟨rfl, rfl⟩, rfl⟩
  try simp only [List.cons_append, List.nil_append]
  refine TO.p (DP.not rfl) ?_
  refine TO.nil ?_
  refine TQ.nn ?_
  refine T.condF rfl ?_
  refine T.skip ?_
  refine TQ.nn ?_
  refine T.seq ?_
  refine T.seq ?_
  refine T.reg ?_
  refine TO.p (DP.mv (by conv => lhs; whnf)) ?_
  refine TO.p (DP.mv (by conv => lhs; whnf)) ?_
  refine TO.p (DP.mv (by conv => lhs; whnf)) ?_
  refine TO.p (DP.lenT rfl Try.underlying9) ?_
  refine TO.p (DP.mv (by conv => lhs; whnf)) ?_
  refine TO.n (N.callF (rall r b lb at_ bs lt s.length x hbs hlt ha (by omega)) Try.call79 ⟨rfl, rfl, rfl, rfl, trivial⟩ (by (repeat first | exact Pick.nil _ | (apply Pick.cons; focus ((repeat first | exact Del.head _ _ | apply Del.tail); done))))) ?_
  rintro u23 _ ⟨_, ⟨rfl, rfl⟩, rfl⟩
  try simp only [List.cons_append, List.nil_append]
  refine TO.p (DP.to (v' := .bool true) (DP.not rfl) (by rw [hs]; rfl)) ?_
  refine TO.nil ?_
  refine TQ.nn ?_
  refine T.condT rfl ?_
  refine T.seq ?_
  refine T.reg ?_
  refine TO.p (DP.mv (by conv => lhs; whnf)) ?_
  refine TO.p (DP.as (by conv => lhs; whnf)) ?_
  refine TO.nil ?_
  refine TQ.nn ?_
  refine T.ret ?_
  refine TQ.nr ?_
  refine TQ.ret (vs := [.int .i64 e]) (L' := [_, _, _]) rfl ⟨rfl, rfl⟩ ⟨rfl, rfl⟩ (by (refine Ent.imp ?_; repeat first | exact Imp.refl _ | exact Imp.nil _ | (apply Imp.pull; focus ((repeat first | exact Del.head _ _ | apply Del.tail); done)) | (apply Imp.row; focus ((repeat first | exact Del.head _ _ | apply Del.tail); done)) | apply Imp.drop))

theorem rput_ok (r b lb at_ : Nat) (bs : List UInt8) (lt : List Bool) (s : List UInt8) (x : Bool) (e : Nat) (hbs : bs.length ≤ 1048576) (hlt : lt.length = bs.length) (ha : at_ < 4294967296) (h : at_ + s.length ≤ bs.length) (hs : allB lt at_ s.length x = true) :
    Sat Try.prog 76 [.pointer (some ⟨r, 0, none⟩), .int .u32 at_, str s, .bool x, .int .i64 e] [row 63 r [.slice (some ⟨b, 0, none⟩) bs.length bs.length, .slice (some ⟨lb, 0, none⟩) lt.length lt.length], row 5 b (bs.map byteV), row 4 lb (lt.map boolV)] (fun u L' => u = .int .i64 0 ∧ L' = [row 63 r [.slice (some ⟨b, 0, none⟩) bs.length bs.length, .slice (some ⟨lb, 0, none⟩) lt.length lt.length], row 5 b ((putB bs at_ s).map byteV), row 4 lb ((lt).map boolV)]) := by
  refine Sat.enter Try.func76 rfl Try.ntmps76 rfl (fun c R => ?_)
  try simp only [List.cons_append, List.nil_append]
  refine T.seq ?_
  refine T.reg ?_
  refine TO.p (DP.as (by conv => lhs; whnf)) ?_
  refine TO.nil ?_
  refine TQ.nn ?_
  refine T.seq ?_
  refine T.seq ?_
  refine T.reg ?_
  refine TO.p (DP.mv (by conv => lhs; whnf)) ?_
  refine TO.p (DP.mv (by conv => lhs; whnf)) ?_
  refine TO.p (DP.mv (by conv => lhs; whnf)) ?_
  refine TO.p (DP.lenT rfl Try.underlying9) ?_
  refine TO.n (N.callF (rin_yes r b bs.length at_ s.length _ hbs ha h) Try.call53 ⟨rfl, rfl, rfl, trivial⟩ (by (repeat first | exact Pick.nil _ | (apply Pick.cons; focus ((repeat first | exact Del.head _ _ | apply Del.tail); done))))) ?_
  rintro u16 _ ⟨_, ⟨rfl, rfl⟩, rfl⟩
  try simp only [List.cons_append, List.nil_append]
  refine TO.p (DP.not rfl) ?_
  refine TO.nil ?_
  refine TQ.nn ?_
  refine T.condF rfl ?_
  refine T.skip ?_
  refine TQ.nn ?_
  refine T.seq ?_
  refine T.seq ?_
  refine T.reg ?_
  refine TO.p (DP.mv (by conv => lhs; whnf)) ?_
  refine TO.p (DP.mv (by conv => lhs; whnf)) ?_
  refine TO.p (DP.mv (by conv => lhs; whnf)) ?_
  refine TO.p (DP.lenT rfl Try.underlying9) ?_
  refine TO.p (DP.mv (by conv => lhs; whnf)) ?_
  refine TO.n (N.callF (rall r b lb at_ bs lt s.length x hbs hlt ha (by omega)) Try.call79 ⟨rfl, rfl, rfl, rfl, trivial⟩ (by (repeat first | exact Pick.nil _ | (apply Pick.cons; focus ((repeat first | exact Del.head _ _ | apply Del.tail); done))))) ?_
  rintro u23 _ ⟨_, ⟨rfl, rfl⟩, rfl⟩
  try simp only [List.cons_append, List.nil_append]
  refine TO.p (DP.to (v' := .bool false) (DP.not rfl) (by rw [hs]; rfl)) ?_
  refine TO.nil ?_
  refine TQ.nn ?_
  refine T.condF rfl ?_
  refine T.skip ?_
  refine TQ.nn ?_
  refine T.seq ?_
  refine T.seq ?_
  refine T.reg ?_
  refine TO.p (DP.as (by conv => lhs; whnf)) ?_
  refine TO.nil ?_
  refine TQ.nn ?_
  refine T.block ?_
  refine T.loop (S := Nat) 0 (fun i => [(0, .pointer (some ⟨r, 0, none⟩)), (1, .int .u32 at_), (2, str s), (11, .int .i64 (i : Nat))]) (fun i => row 63 r [.slice (some ⟨b, 0, none⟩) bs.length bs.length, .slice (some ⟨lb, 0, none⟩) lt.length lt.length] :: row 5 b ((putB bs at_ (s.take i)).map byteV) :: row 4 lb ((lt).map boolV) :: R) (fun i => i ≤ s.length) (fun i => s.length - i) ?_ ?_ ?_ ?_
  · (repeat first | exact trivial | refine ⟨rfl, ?_⟩)
  · (first | trivial | omega | simp)
  · (rw [List.take_zero, putB_nil]; exact Ent.refl _ _)
  rintro i g hI
  refine T.seq ?_
  refine T.seq ?_
  refine T.reg ?_
  refine TO.p (DP.mv (by conv => lhs; whnf)) ?_
  refine TO.p (DP.mv (by conv => lhs; whnf)) ?_
  refine TO.p (DP.lenT rfl Try.underlying9) ?_
  refine TO.p (DP.lss rfl rfl) ?_
  refine TO.nil ?_
  refine TQ.nn ?_
  refine T.condD rfl (fun hc2 => ?_) (fun hc2 => ?_)
  · obtain ⟨y, hy⟩ := get_some (l := s) (i := i) (by omega)
    have hpl := putB_len (bs := bs) (a := at_) (s := s.take i) (by simp; omega)
    refine T.skip ?_
    refine TQ.nn ?_
    refine T.seq ?_
    refine T.block ?_
    refine T.drawL [12] mixed (by repeat first | exact Calm.rt | apply Calm.t | apply Calm.b | apply Calm.l | apply Calm.ct) ?_
    refine TR.p 0 rfl (by kernel_rfl) (DP.mv (by conv => lhs; whnf)) ?_
    refine TR.p 1 rfl (by kernel_rfl) (DP.nck rfl) ?_
    refine TR.p 2 rfl (by kernel_rfl) (DP.fa 0 rfl Try.underlying63 rfl rfl sz49) ?_
    refine TR.d 3 rfl (by kernel_rfl) (by kernel_rfl) (by (refine Ent.imp ?_; repeat first | exact Imp.refl _ | exact Imp.nil _ | (apply Imp.pull; focus ((repeat first | exact Del.head _ _ | apply Del.tail); done)) | (apply Imp.row; focus ((repeat first | exact Del.head _ _ | apply Del.tail); done)) | apply Imp.drop)) (D.ldR rfl pl49 (by (repeat first | exact LMem.head _ _ | apply LMem.tail)) (by rfl)) ?_
    refine TR.p 4 rfl (by kernel_rfl) (DP.mv (by conv => lhs; whnf)) ?_
    refine TR.p 5 rfl (by kernel_rfl) (DP.cv rfl is30 Try.underlying3 (l := 9223372036854775808) rfl (by omega)) ?_
    refine TR.p 6 rfl (by kernel_rfl) (DP.mv (by conv => lhs; whnf)) ?_
    refine TR.p 7 rfl (by kernel_rfl) (DP.add rfl rfl (l := 9223372036854775808) rfl (by omega)) ?_
    refine TR.p 8 rfl (by kernel_rfl) (DP.mv (by conv => lhs; whnf)) ?_
    refine TR.p 9 rfl (by kernel_rfl) (DP.mv (by conv => lhs; whnf)) ?_
    refine TR.p 10 rfl (by kernel_rfl) (DP.ixT (b := y) rfl rfl Try.underlying9 hy) ?_
    refine TR.p 11 rfl (by kernel_rfl) (DP.to (v' := .pointer (some ⟨b, at_ + i, none⟩)) (DP.ias rfl rfl Try.underlying49 sz5 (by omega)) (by simp)) ?_
    refine TR.n0 12 (by kernel_rfl) rfl (N.st (et := 5) rfl (by conv => lhs; whnf) sz5 (by (repeat first | exact Put.head _ _ _ | apply Put.tail)) (by rw [List.length_map, hpl]; omega) rfl) ?_
    rintro _ _ ⟨rfl, rfl⟩
    refine ⟨.inl rfl, ?_⟩
    refine TR.done (by kernel_rfl) ?_
    refine TQ.bn ?_
    refine TQ.nn ?_
    refine T.reg ?_
    refine TO.p (DP.mv (by conv => lhs; whnf)) ?_
    refine TO.p (DP.add (b := 1) rfl rfl (l := 9223372036854775808) rfl (by omega)) ?_
    refine TO.p (DP.as (by conv => lhs; whnf)) ?_
    refine TO.nil ?_
    refine TQ.round (i + 1) rfl ?_ ?_ ?_ ?_
    · (repeat first | exact trivial | refine ⟨rfl, ?_⟩)
    · omega
    · omega
    · (rw [← putB_set h hy]; exact Ent.refl _ _)
  · obtain rfl : i = s.length := by omega
    refine T.exit ?_
    refine TQ.ne ?_
    refine TQ.le ?_
    refine TQ.be ?_
    refine TQ.nn ?_
    refine T.seq ?_
    refine T.reg ?_
    refine TO.p (DP.as (by conv => lhs; whnf)) ?_
    refine TO.nil ?_
    refine TQ.nn ?_
    refine T.ret ?_
    rw [List.take_length]
    refine TQ.ret (vs := [.int .i64 0]) (L' := [_, _, _]) rfl ⟨rfl, rfl⟩ ⟨rfl, rfl⟩ (by (refine Ent.imp ?_; repeat first | exact Imp.refl _ | exact Imp.nil _ | (apply Imp.pull; focus ((repeat first | exact Del.head _ _ | apply Del.tail); done)) | (apply Imp.row; focus ((repeat first | exact Del.head _ _ | apply Del.tail); done)) | apply Imp.drop))

theorem rturn_zero (r b lb at_ l : Nat) (bs : List UInt8) (lt : List Bool) (x : Bool) (e : Nat) (hbs : bs.length ≤ 1048576) (hlt : lt.length = bs.length) (ha : at_ < 4294967296) (hl : l < 4294967296) (h : l = 0) :
    Sat Try.prog 77 [.pointer (some ⟨r, 0, none⟩), .agg #[.int .u32 at_, .int .u32 l], .bool x, .int .i64 e] [row 63 r [.slice (some ⟨b, 0, none⟩) bs.length bs.length, .slice (some ⟨lb, 0, none⟩) lt.length lt.length], row 5 b (bs.map byteV), row 4 lb (lt.map boolV)] (fun u L' => u = .int .i64 10 ∧ L' = [row 63 r [.slice (some ⟨b, 0, none⟩) bs.length bs.length, .slice (some ⟨lb, 0, none⟩) lt.length lt.length], row 5 b (bs.map byteV), row 4 lb (lt.map boolV)]) := by
  refine Sat.enter Try.func77 rfl Try.ntmps77 rfl (fun c R => ?_)
  try simp only [List.cons_append, List.nil_append]
  refine T.seq ?_
  refine T.reg ?_
  refine TO.n (N.bxA rfl) ?_
  rintro _ _ ⟨b5, rfl, rfl⟩
  refine TO.p (DP.as (by conv => lhs; whnf)) ?_
  refine TO.nil ?_
  refine TQ.nn ?_
  refine T.seq ?_
  refine T.seq ?_
  refine T.reg ?_
  refine TO.p (DP.fa 1 rfl Try.underlying42 rfl rfl sz30) ?_
  refine TO.d (D.ldR rfl pl30 (by (repeat first | exact LMem.head _ _ | apply LMem.tail)) (by rfl)) ?_
  refine TO.p (DP.eql (b := 0) rfl rfl) ?_
  refine TO.pB (DP.mv (by conv => lhs; whnf)) (fun hg13 => ?_) (fun hg13 => ?_)
  · refine TO.off rfl rfl ?_
    refine TO.off rfl rfl ?_
    refine TO.off rfl rfl ?_
    refine TO.off rfl rfl ?_
    refine TO.off rfl rfl ?_
    refine TO.off rfl rfl ?_
    refine TO.off rfl rfl ?_
    refine TO.off rfl rfl ?_
    refine TO.p (DP.pkT rfl (by conv => lhs; whnf)) ?_
    refine TO.nil ?_
    refine TQ.nn ?_
    refine T.condT rfl ?_
    refine T.seq ?_
    refine T.reg ?_
    refine TO.p (DP.as (by conv => lhs; whnf)) ?_
    refine TO.nil ?_
    refine TQ.nn ?_
    refine T.ret ?_
    refine TQ.nr ?_
    refine TQ.ret (vs := [.int .i64 10]) (L' := [_, _, _]) rfl ⟨rfl, rfl⟩ ⟨rfl, rfl⟩ (by (refine Ent.imp ?_; repeat first | exact Imp.refl _ | exact Imp.nil _ | (apply Imp.pull; focus ((repeat first | exact Del.head _ _ | apply Del.tail); done)) | (apply Imp.row; focus ((repeat first | exact Del.head _ _ | apply Del.tail); done)) | apply Imp.drop))
  · exact absurd h hg13

theorem rturn_out (r b lb at_ l : Nat) (bs : List UInt8) (lt : List Bool) (x : Bool) (e : Nat) (hbs : bs.length ≤ 1048576) (hlt : lt.length = bs.length) (ha : at_ < 4294967296) (hl : l < 4294967296) (h0 : 0 < l) (h : bs.length < at_ + l) :
    Sat Try.prog 77 [.pointer (some ⟨r, 0, none⟩), .agg #[.int .u32 at_, .int .u32 l], .bool x, .int .i64 e] [row 63 r [.slice (some ⟨b, 0, none⟩) bs.length bs.length, .slice (some ⟨lb, 0, none⟩) lt.length lt.length], row 5 b (bs.map byteV), row 4 lb (lt.map boolV)] (fun u L' => u = .int .i64 10 ∧ L' = [row 63 r [.slice (some ⟨b, 0, none⟩) bs.length bs.length, .slice (some ⟨lb, 0, none⟩) lt.length lt.length], row 5 b (bs.map byteV), row 4 lb (lt.map boolV)]) := by
  refine Sat.enter Try.func77 rfl Try.ntmps77 rfl (fun c R => ?_)
  try simp only [List.cons_append, List.nil_append]
  refine T.seq ?_
  refine T.reg ?_
  refine TO.n (N.bxA rfl) ?_
  rintro _ _ ⟨b5, rfl, rfl⟩
  refine TO.p (DP.as (by conv => lhs; whnf)) ?_
  refine TO.nil ?_
  refine TQ.nn ?_
  refine T.seq ?_
  refine T.seq ?_
  refine T.reg ?_
  refine TO.p (DP.fa 1 rfl Try.underlying42 rfl rfl sz30) ?_
  refine TO.d (D.ldR rfl pl30 (by (repeat first | exact LMem.head _ _ | apply LMem.tail)) (by rfl)) ?_
  refine TO.p (DP.eql (b := 0) rfl rfl) ?_
  refine TO.pB (DP.mv (by conv => lhs; whnf)) (fun hg13 => ?_) (fun hg13 => ?_)
  · exact absurd hg13 (by omega)
  · refine TO.onP rfl (DP.mv (by conv => lhs; whnf)) ?_
    refine TO.onP rfl (DP.fa 0 rfl Try.underlying42 rfl rfl sz30) ?_
    refine TO.onD rfl (D.ldR rfl pl30 (by (repeat first | exact LMem.head _ _ | apply LMem.tail)) (by rfl)) ?_
    refine TO.onP rfl (DP.fa 1 rfl Try.underlying42 rfl rfl sz30) ?_
    refine TO.onD rfl (D.ldR rfl pl30 (by (repeat first | exact LMem.head _ _ | apply LMem.tail)) (by rfl)) ?_
    refine TO.onP rfl (DP.cv rfl is30 Try.underlying3 (l := 9223372036854775808) rfl (by omega)) ?_
    refine TO.on rfl (N.callF (rin_no r b bs.length at_ l _ hbs ha (.inr (by omega))) Try.call53 ⟨rfl, rfl, rfl, trivial⟩ (by (repeat first | exact Pick.nil _ | (apply Pick.cons; focus ((repeat first | exact Del.head _ _ | apply Del.tail); done))))) ?_
    rintro u20 _ ⟨_, ⟨rfl, rfl⟩, rfl⟩
    try simp only [List.cons_append, List.nil_append]
    refine TO.onP rfl (DP.not rfl) ?_
    refine TO.p (DP.pkF rfl (by conv => lhs; whnf)) ?_
    refine TO.nil ?_
    refine TQ.nn ?_
    refine T.condT rfl ?_
    refine T.seq ?_
    refine T.reg ?_
    refine TO.p (DP.as (by conv => lhs; whnf)) ?_
    refine TO.nil ?_
    refine TQ.nn ?_
    refine T.ret ?_
    refine TQ.nr ?_
    refine TQ.ret (vs := [.int .i64 10]) (L' := [_, _, _]) rfl ⟨rfl, rfl⟩ ⟨rfl, rfl⟩ (by (refine Ent.imp ?_; repeat first | exact Imp.refl _ | exact Imp.nil _ | (apply Imp.pull; focus ((repeat first | exact Del.head _ _ | apply Del.tail); done)) | (apply Imp.row; focus ((repeat first | exact Del.head _ _ | apply Del.tail); done)) | apply Imp.drop))

theorem rturn_bad (r b lb at_ l : Nat) (bs : List UInt8) (lt : List Bool) (x : Bool) (e : Nat) (hbs : bs.length ≤ 1048576) (hlt : lt.length = bs.length) (ha : at_ < 4294967296) (hl : l < 4294967296) (h0 : 0 < l) (h : at_ + l ≤ bs.length) (hs : allB lt at_ l (!x) = false) :
    Sat Try.prog 77 [.pointer (some ⟨r, 0, none⟩), .agg #[.int .u32 at_, .int .u32 l], .bool x, .int .i64 e] [row 63 r [.slice (some ⟨b, 0, none⟩) bs.length bs.length, .slice (some ⟨lb, 0, none⟩) lt.length lt.length], row 5 b (bs.map byteV), row 4 lb (lt.map boolV)] (fun u L' => u = .int .i64 e ∧ L' = [row 63 r [.slice (some ⟨b, 0, none⟩) bs.length bs.length, .slice (some ⟨lb, 0, none⟩) lt.length lt.length], row 5 b (bs.map byteV), row 4 lb (lt.map boolV)]) := by
  refine Sat.enter Try.func77 rfl Try.ntmps77 rfl (fun c R => ?_)
  try simp only [List.cons_append, List.nil_append]
  refine T.seq ?_
  refine T.reg ?_
  refine TO.n (N.bxA rfl) ?_
  rintro _ _ ⟨b5, rfl, rfl⟩
  refine TO.p (DP.as (by conv => lhs; whnf)) ?_
  refine TO.nil ?_
  refine TQ.nn ?_
  refine T.seq ?_
  refine T.seq ?_
  refine T.reg ?_
  refine TO.p (DP.fa 1 rfl Try.underlying42 rfl rfl sz30) ?_
  refine TO.d (D.ldR rfl pl30 (by (repeat first | exact LMem.head _ _ | apply LMem.tail)) (by rfl)) ?_
  refine TO.p (DP.eql (b := 0) rfl rfl) ?_
  refine TO.pB (DP.mv (by conv => lhs; whnf)) (fun hg13 => ?_) (fun hg13 => ?_)
  · exact absurd hg13 (by omega)
  · refine TO.onP rfl (DP.mv (by conv => lhs; whnf)) ?_
    refine TO.onP rfl (DP.fa 0 rfl Try.underlying42 rfl rfl sz30) ?_
    refine TO.onD rfl (D.ldR rfl pl30 (by (repeat first | exact LMem.head _ _ | apply LMem.tail)) (by rfl)) ?_
    refine TO.onP rfl (DP.fa 1 rfl Try.underlying42 rfl rfl sz30) ?_
    refine TO.onD rfl (D.ldR rfl pl30 (by (repeat first | exact LMem.head _ _ | apply LMem.tail)) (by rfl)) ?_
    refine TO.onP rfl (DP.cv rfl is30 Try.underlying3 (l := 9223372036854775808) rfl (by omega)) ?_
    refine TO.on rfl (N.callF (rin_yes r b bs.length at_ l _ hbs ha h) Try.call53 ⟨rfl, rfl, rfl, trivial⟩ (by (repeat first | exact Pick.nil _ | (apply Pick.cons; focus ((repeat first | exact Del.head _ _ | apply Del.tail); done))))) ?_
    rintro u20 _ ⟨_, ⟨rfl, rfl⟩, rfl⟩
    try simp only [List.cons_append, List.nil_append]
    refine TO.onP rfl (DP.not rfl) ?_
    refine TO.p (DP.pkF rfl (by conv => lhs; whnf)) ?_
    refine TO.nil ?_
    refine TQ.nn ?_
    refine T.condF rfl ?_
    refine T.skip ?_
    refine TQ.nn ?_
    refine T.seq ?_
    refine T.seq ?_
    refine T.reg ?_
    refine TO.p (DP.mv (by conv => lhs; whnf)) ?_
    refine TO.p (DP.fa 0 rfl Try.underlying42 rfl rfl sz30) ?_
    refine TO.d (D.ldR rfl pl30 (by (repeat first | exact LMem.head _ _ | apply LMem.tail)) (by rfl)) ?_
    refine TO.p (DP.fa 1 rfl Try.underlying42 rfl rfl sz30) ?_
    refine TO.d (D.ldR rfl pl30 (by (repeat first | exact LMem.head _ _ | apply LMem.tail)) (by rfl)) ?_
    refine TO.p (DP.cv rfl is30 Try.underlying3 (l := 9223372036854775808) rfl (by omega)) ?_
    refine TO.p (DP.mv (by conv => lhs; whnf)) ?_
    refine TO.p (DP.not rfl) ?_
    refine TO.n (N.callF (rall r b lb at_ bs lt l (!x) hbs hlt ha (by omega)) Try.call79 ⟨rfl, rfl, rfl, rfl, trivial⟩ (by (repeat first | exact Pick.nil _ | (apply Pick.cons; focus ((repeat first | exact Del.head _ _ | apply Del.tail); done))))) ?_
    rintro u31 _ ⟨_, ⟨rfl, rfl⟩, rfl⟩
    try simp only [List.cons_append, List.nil_append]
    refine TO.p (DP.to (v' := .bool true) (DP.not rfl) (by rw [hs]; rfl)) ?_
    refine TO.nil ?_
    refine TQ.nn ?_
    refine T.condT rfl ?_
    refine T.seq ?_
    refine T.reg ?_
    refine TO.p (DP.mv (by conv => lhs; whnf)) ?_
    refine TO.p (DP.as (by conv => lhs; whnf)) ?_
    refine TO.nil ?_
    refine TQ.nn ?_
    refine T.ret ?_
    refine TQ.nr ?_
    refine TQ.ret (vs := [.int .i64 e]) (L' := [_, _, _]) rfl ⟨rfl, rfl⟩ ⟨rfl, rfl⟩ (by (refine Ent.imp ?_; repeat first | exact Imp.refl _ | exact Imp.nil _ | (apply Imp.pull; focus ((repeat first | exact Del.head _ _ | apply Del.tail); done)) | (apply Imp.row; focus ((repeat first | exact Del.head _ _ | apply Del.tail); done)) | apply Imp.drop))

theorem rturn_ok (r b lb at_ l : Nat) (bs : List UInt8) (lt : List Bool) (x : Bool) (e : Nat) (hbs : bs.length ≤ 1048576) (hlt : lt.length = bs.length) (ha : at_ < 4294967296) (hl : l < 4294967296) (h0 : 0 < l) (h : at_ + l ≤ bs.length) (hs : allB lt at_ l (!x) = true) :
    Sat Try.prog 77 [.pointer (some ⟨r, 0, none⟩), .agg #[.int .u32 at_, .int .u32 l], .bool x, .int .i64 e] [row 63 r [.slice (some ⟨b, 0, none⟩) bs.length bs.length, .slice (some ⟨lb, 0, none⟩) lt.length lt.length], row 5 b (bs.map byteV), row 4 lb (lt.map boolV)] (fun u L' => u = .int .i64 0 ∧ L' = [row 63 r [.slice (some ⟨b, 0, none⟩) bs.length bs.length, .slice (some ⟨lb, 0, none⟩) lt.length lt.length], row 5 b ((bs).map byteV), row 4 lb ((fillB lt at_ l x).map boolV)]) := by
  refine Sat.enter Try.func77 rfl Try.ntmps77 rfl (fun c R => ?_)
  try simp only [List.cons_append, List.nil_append]
  refine T.seq ?_
  refine T.reg ?_
  refine TO.n (N.bxA rfl) ?_
  rintro _ _ ⟨b5, rfl, rfl⟩
  refine TO.p (DP.as (by conv => lhs; whnf)) ?_
  refine TO.nil ?_
  refine TQ.nn ?_
  refine T.seq ?_
  refine T.seq ?_
  refine T.reg ?_
  refine TO.p (DP.fa 1 rfl Try.underlying42 rfl rfl sz30) ?_
  refine TO.d (D.ldR rfl pl30 (by (repeat first | exact LMem.head _ _ | apply LMem.tail)) (by rfl)) ?_
  refine TO.p (DP.eql (b := 0) rfl rfl) ?_
  refine TO.pB (DP.mv (by conv => lhs; whnf)) (fun hg13 => ?_) (fun hg13 => ?_)
  · exact absurd hg13 (by omega)
  · refine TO.onP rfl (DP.mv (by conv => lhs; whnf)) ?_
    refine TO.onP rfl (DP.fa 0 rfl Try.underlying42 rfl rfl sz30) ?_
    refine TO.onD rfl (D.ldR rfl pl30 (by (repeat first | exact LMem.head _ _ | apply LMem.tail)) (by rfl)) ?_
    refine TO.onP rfl (DP.fa 1 rfl Try.underlying42 rfl rfl sz30) ?_
    refine TO.onD rfl (D.ldR rfl pl30 (by (repeat first | exact LMem.head _ _ | apply LMem.tail)) (by rfl)) ?_
    refine TO.onP rfl (DP.cv rfl is30 Try.underlying3 (l := 9223372036854775808) rfl (by omega)) ?_
    refine TO.on rfl (N.callF (rin_yes r b bs.length at_ l _ hbs ha h) Try.call53 ⟨rfl, rfl, rfl, trivial⟩ (by (repeat first | exact Pick.nil _ | (apply Pick.cons; focus ((repeat first | exact Del.head _ _ | apply Del.tail); done))))) ?_
    rintro u20 _ ⟨_, ⟨rfl, rfl⟩, rfl⟩
    try simp only [List.cons_append, List.nil_append]
    refine TO.onP rfl (DP.not rfl) ?_
    refine TO.p (DP.pkF rfl (by conv => lhs; whnf)) ?_
    refine TO.nil ?_
    refine TQ.nn ?_
    refine T.condF rfl ?_
    refine T.skip ?_
    refine TQ.nn ?_
    refine T.seq ?_
    refine T.seq ?_
    refine T.reg ?_
    refine TO.p (DP.mv (by conv => lhs; whnf)) ?_
    refine TO.p (DP.fa 0 rfl Try.underlying42 rfl rfl sz30) ?_
    refine TO.d (D.ldR rfl pl30 (by (repeat first | exact LMem.head _ _ | apply LMem.tail)) (by rfl)) ?_
    refine TO.p (DP.fa 1 rfl Try.underlying42 rfl rfl sz30) ?_
    refine TO.d (D.ldR rfl pl30 (by (repeat first | exact LMem.head _ _ | apply LMem.tail)) (by rfl)) ?_
    refine TO.p (DP.cv rfl is30 Try.underlying3 (l := 9223372036854775808) rfl (by omega)) ?_
    refine TO.p (DP.mv (by conv => lhs; whnf)) ?_
    refine TO.p (DP.not rfl) ?_
    refine TO.n (N.callF (rall r b lb at_ bs lt l (!x) hbs hlt ha (by omega)) Try.call79 ⟨rfl, rfl, rfl, rfl, trivial⟩ (by (repeat first | exact Pick.nil _ | (apply Pick.cons; focus ((repeat first | exact Del.head _ _ | apply Del.tail); done))))) ?_
    rintro u31 _ ⟨_, ⟨rfl, rfl⟩, rfl⟩
    try simp only [List.cons_append, List.nil_append]
    refine TO.p (DP.to (v' := .bool false) (DP.not rfl) (by rw [hs]; rfl)) ?_
    refine TO.nil ?_
    refine TQ.nn ?_
    refine T.condF rfl ?_
    refine T.skip ?_
    refine TQ.nn ?_
    refine T.seq ?_
    refine T.seq ?_
    refine T.reg ?_
    refine TO.p (DP.as (by conv => lhs; whnf)) ?_
    refine TO.nil ?_
    refine TQ.nn ?_
    refine T.block ?_
    refine T.loop (S := Nat) 0 (fun i => [(0, .pointer (some ⟨r, 0, none⟩)), (2, .bool x), (5, .pointer (some ⟨b5, 0, none⟩)), (9, .int .i64 (i : Nat))]) (fun i => row 42 b5 [.int .u32 at_, .int .u32 l] :: row 63 r [.slice (some ⟨b, 0, none⟩) bs.length bs.length, .slice (some ⟨lb, 0, none⟩) lt.length lt.length] :: row 5 b ((bs).map byteV) :: row 4 lb ((fillB lt at_ i x).map boolV) :: R) (fun i => i ≤ l) (fun i => l - i) ?_ ?_ ?_ ?_
    · (repeat first | exact trivial | refine ⟨rfl, ?_⟩)
    · (first | trivial | omega | simp)
    · (rw [fillB_nil]; (refine Ent.imp ?_; repeat first | exact Imp.refl _ | exact Imp.nil _ | (apply Imp.pull; focus ((repeat first | exact Del.head _ _ | apply Del.tail); done)) | (apply Imp.row; focus ((repeat first | exact Del.head _ _ | apply Del.tail); done)) | apply Imp.drop))
    rintro i g hI
    refine T.seq ?_
    refine T.seq ?_
    refine T.reg ?_
    refine TO.p (DP.mv (by conv => lhs; whnf)) ?_
    refine TO.p (DP.fa 1 rfl Try.underlying42 rfl rfl sz30) ?_
    refine TO.d (D.ldR rfl pl30 (by (repeat first | exact LMem.head _ _ | apply LMem.tail)) (by rfl)) ?_
    refine TO.p (DP.cv rfl is30 Try.underlying3 (l := 9223372036854775808) rfl (by omega)) ?_
    refine TO.p (DP.lss rfl rfl) ?_
    refine TO.nil ?_
    refine TQ.nn ?_
    refine T.condD rfl (fun hc2 => ?_) (fun hc2 => ?_)
    · have hpl := fillB_len (lt := lt) (a := at_) (l := i) (x := x) (by omega)
      refine T.skip ?_
      refine TQ.nn ?_
      refine T.seq ?_
      refine T.block ?_
      refine T.drawL [11] mixed (by repeat first | exact Calm.rt | apply Calm.t | apply Calm.b | apply Calm.l | apply Calm.ct) ?_
      refine TR.p 0 rfl (by kernel_rfl) (DP.mv (by conv => lhs; whnf)) ?_
      refine TR.p 1 rfl (by kernel_rfl) (DP.nck rfl) ?_
      refine TR.p 2 rfl (by kernel_rfl) (DP.fa 1 rfl Try.underlying63 rfl rfl sz61) ?_
      refine TR.d 3 rfl (by kernel_rfl) (by kernel_rfl) (by (refine Ent.imp ?_; repeat first | exact Imp.refl _ | exact Imp.nil _ | (apply Imp.pull; focus ((repeat first | exact Del.head _ _ | apply Del.tail); done)) | (apply Imp.row; focus ((repeat first | exact Del.head _ _ | apply Del.tail); done)) | apply Imp.drop)) (D.ldR rfl pl61 (by (repeat first | exact LMem.head _ _ | apply LMem.tail)) (by rfl)) ?_
      refine TR.p 4 rfl (by kernel_rfl) (DP.fa 0 rfl Try.underlying42 rfl rfl sz30) ?_
      refine TR.d 5 rfl (by kernel_rfl) (by kernel_rfl) (by (refine Ent.imp ?_; repeat first | exact Imp.refl _ | exact Imp.nil _ | (apply Imp.pull; focus ((repeat first | exact Del.head _ _ | apply Del.tail); done)) | (apply Imp.row; focus ((repeat first | exact Del.head _ _ | apply Del.tail); done)) | apply Imp.drop)) (D.ldR rfl pl30 (by (repeat first | exact LMem.head _ _ | apply LMem.tail)) (by rfl)) ?_
      refine TR.p 6 rfl (by kernel_rfl) (DP.cv rfl is30 Try.underlying3 (l := 9223372036854775808) rfl (by omega)) ?_
      refine TR.p 7 rfl (by kernel_rfl) (DP.mv (by conv => lhs; whnf)) ?_
      refine TR.p 8 rfl (by kernel_rfl) (DP.add rfl rfl (l := 9223372036854775808) rfl (by omega)) ?_
      refine TR.p 9 rfl (by kernel_rfl) (DP.mv (by conv => lhs; whnf)) ?_
      refine TR.p 10 rfl (by kernel_rfl) (DP.to (v' := .pointer (some ⟨lb, at_ + i, none⟩)) (DP.ias rfl rfl Try.underlying61 sz4 (by omega)) (by simp)) ?_
      refine TR.n0 11 (by kernel_rfl) rfl (N.st (et := 4) rfl (by conv => lhs; whnf) sz4 (by (repeat first | exact Put.head _ _ _ | apply Put.tail)) (by rw [List.length_map, hpl]; omega) rfl) ?_
      rintro _ _ ⟨rfl, rfl⟩
      refine ⟨.inl rfl, ?_⟩
      refine TR.done (by kernel_rfl) ?_
      refine TQ.bn ?_
      refine TQ.nn ?_
      refine T.reg ?_
      refine TO.p (DP.mv (by conv => lhs; whnf)) ?_
      refine TO.p (DP.add (b := 1) rfl rfl (l := 9223372036854775808) rfl (by omega)) ?_
      refine TO.p (DP.as (by conv => lhs; whnf)) ?_
      refine TO.nil ?_
      refine TQ.round (i + 1) rfl ?_ ?_ ?_ ?_
      · (repeat first | exact trivial | refine ⟨rfl, ?_⟩)
      · omega
      · omega
      · (rw [← fillB_set (l := l) (by omega) (by omega)]; exact Ent.refl _ _)
    · obtain rfl : i = l := by omega
      refine T.exit ?_
      refine TQ.ne ?_
      refine TQ.le ?_
      refine TQ.be ?_
      refine TQ.nn ?_
      refine T.seq ?_
      refine T.reg ?_
      refine TO.p (DP.as (by conv => lhs; whnf)) ?_
      refine TO.nil ?_
      refine TQ.nn ?_
      refine T.ret ?_
      refine TQ.ret (vs := [.int .i64 0]) (L' := [_, _, _]) rfl ⟨rfl, rfl⟩ ⟨rfl, rfl⟩ (by (refine Ent.imp ?_; repeat first | exact Imp.refl _ | exact Imp.nil _ | (apply Imp.pull; focus ((repeat first | exact Del.head _ _ | apply Del.tail); done)) | (apply Imp.row; focus ((repeat first | exact Del.head _ _ | apply Del.tail); done)) | apply Imp.drop))


theorem snoc_last {α : Type} (ls : List α) (h : ls ≠ []) : ∃ q x, ls = q ++ [x] := by
  rcases List.eq_nil_or_concat ls with h' | ⟨q, x, h'⟩
  · exact absurd h' h
  · exact ⟨q, x, by rw [h', List.concat_eq_append]⟩
def SpI (lt : List Bool) (i : Nat) (ls : List Spn) : Prop := Canon 0 i ls ∧ ∀ k, inS ls k ↔ k < i ∧ lt[k]? = some true
theorem SpI.nil (lt : List Bool) : SpI lt 0 [] := ⟨trivial, fun k => by simp [inS_nil]⟩
theorem SpI.no {lt : List Bool} {i : Nat} {ls : List Spn} (h : SpI lt i ls) (hy : lt[i]? = some false) : SpI lt (i + 1) ls := by
  refine ⟨h.1.wide (by omega), fun k => ?_⟩
  rw [h.2 k]
  constructor
  · rintro ⟨a, b⟩; exact ⟨by omega, b⟩
  · rintro ⟨a, b⟩
    refine ⟨?_, b⟩
    rcases Nat.lt_or_ge k i with h1 | h1
    · exact h1
    · obtain rfl : k = i := by omega
      rw [hy] at b; cases b
theorem SpI.snoc {lt : List Bool} {i : Nat} {ls : List Spn} (h : SpI lt i ls) (hy : lt[i]? = some true) (hp : i = 0 ∨ ∃ j, i = j + 1 ∧ lt[j]? = some false) : SpI lt (i + 1) (ls ++ [(i, 1)]) := by
  have hk : ∀ k, inS ls k → k < i := fun k hk => ((h.2 k).1 hk).1
  have hlast : ∀ q x, ls = q ++ [x] → x.1 + x.2 + 1 ≤ i := fun q x he => by
    have hg := h.1.ge x (by rw [he]; simp)
    rcases hp with rfl | ⟨j, rfl, hj⟩
    · omega
    · rcases Nat.lt_or_ge j (x.1 + x.2) with h1 | h1
      · have := (h.2 j).1 ⟨x, by rw [he]; simp, by omega, h1⟩
        rw [hj] at this; cases this.2
      · omega
  refine ⟨Canon.app.2 ⟨h.1.wide (by omega), ?_⟩, fun k => ?_⟩
  · rcases List.eq_nil_or_concat ls with rfl | ⟨q, x, rfl⟩
    · exact ⟨Nat.zero_le _, by simp, by simp, trivial⟩
    · rw [List.concat_eq_append, endC_snoc]
      exact ⟨hlast q x (List.concat_eq_append), by simp, by simp, trivial⟩
  · rw [inS_append, inS_cons, h.2 k]
    dsimp only
    constructor
    · rintro (⟨a, b⟩ | a | a)
      · exact ⟨by omega, b⟩
      · obtain rfl : k = i := by omega
        exact ⟨by omega, hy⟩
      · exact absurd a (inS_nil k)
    · rintro ⟨a, b⟩
      rcases Nat.lt_or_ge k i with h1 | h1
      · exact .inl ⟨h1, b⟩
      · exact .inr (.inl ⟨h1, by omega⟩)
theorem endC_ge : ∀ (lo n : Nat) (q : List Spn), Canon lo n q → lo ≤ endC lo q
  | _, _, [], _ => Nat.le_refl _
  | lo, n, x :: t, ⟨h1, h2, h3, h4⟩ => by
    have := endC_ge _ _ _ h4
    simp only [endC]; omega
theorem endq_ge {n : Nat} : ∀ {lo : Nat} {q : List Spn}, Canon lo n q → ∀ s ∈ q, s.1 + s.2 + 1 ≤ endC lo q
  | _, [], _, _, h => by cases h
  | lo, x :: t, ⟨h1, h2, h3, h4⟩, s, hs => by
    rcases List.mem_cons.1 hs with rfl | hs
    · exact endC_ge _ _ _ h4
    · exact endq_ge h4 s hs
theorem SpI.last {lt : List Bool} {j : Nat} {ls : List Spn} (h : SpI lt (j + 1) ls) (hj : lt[j]? = some true) : ∃ q x, ls = q ++ [x] ∧ x.1 + x.2 = j + 1 := by
  obtain ⟨s, hs, h1, h2⟩ := (h.2 j).2 ⟨by omega, hj⟩
  obtain ⟨q, x, rfl⟩ := snoc_last ls (fun e => by subst e; cases hs)
  have hg := h.1.ge x (by simp)
  have hgs := h.1.ge s hs
  rcases List.mem_append.1 hs with hq | hq
  · obtain ⟨c1, c2, c3, c4, _⟩ := Canon.app.1 h.1
    have := endq_ge c1 s hq
    omega
  · obtain rfl : s = x := by simpa using hq
    exact ⟨q, s, rfl, by omega⟩
theorem SpI.bump {lt : List Bool} {i : Nat} {q : List Spn} {x : Spn} (h : SpI lt i (q ++ [x])) (hx : x.1 + x.2 = i) (hy : lt[i]? = some true) : SpI lt (i + 1) (q ++ [(x.1, x.2 + 1)]) := by
  obtain ⟨c1, c2, c3, c4, _⟩ := Canon.app.1 h.1
  refine ⟨Canon.app.2 ⟨c1.wide (by omega), c2, by dsimp only; omega, by dsimp only; omega, trivial⟩, fun k => ?_⟩
  have hk := h.2 k
  rw [inS_append, inS_cons] at hk ⊢
  have hn := inS_nil k
  dsimp only
  rcases Nat.lt_trichotomy k i with h1 | h1 | h1
  · rw [show (k < i + 1 ∧ lt[k]? = some true) ↔ (k < i ∧ lt[k]? = some true) by constructor <;> (rintro ⟨a, b⟩; exact ⟨by omega, b⟩), ← hk]
    have e : (x.1 ≤ k ∧ k < x.1 + (x.2 + 1)) ↔ (x.1 ≤ k ∧ k < x.1 + x.2) := by omega
    rw [e]
  · subst h1
    constructor
    · intro _; exact ⟨by omega, hy⟩
    · intro _; exact .inr (.inl ⟨by omega, by omega⟩)
  · constructor
    · rintro (a | a | a)
      · have := (hk.1 (.inl a)).1; omega
      · omega
      · exact absurd a hn
    · rintro ⟨a, _⟩; omega
theorem SpI.done {ss ls : List Spn} {n : Nat} (h : SpI (flags n ss) n ls) (hc : Canon 0 n ss) : ls = ss := by
  refine h.1.uniq hc fun k => ?_
  rw [h.2 k]
  constructor
  · rintro ⟨a, b⟩; rw [flags_get a] at b; simpa using b
  · intro hk
    have := (hc.inS_ge hk).2
    exact ⟨this, by rw [flags_get this]; simp [hk]⟩

theorem rspans (r b lb : Nat) (bs : List UInt8) (lt : List Bool) (hbs : bs.length ≤ 1048576) (hlt : lt.length = bs.length) :
    Sat Try.prog 29 [.pointer (some ⟨r, 0, none⟩)] [row 63 r [.slice (some ⟨b, 0, none⟩) bs.length bs.length, .slice (some ⟨lb, 0, none⟩) lt.length lt.length], row 5 b (bs.map byteV), row 4 lb (lt.map boolV)] (fun u L' => ∃ ls, SpI lt lt.length ls ∧ L' = [sl 42 2 u ls.length (spans ls), row 63 r [.slice (some ⟨b, 0, none⟩) bs.length bs.length, .slice (some ⟨lb, 0, none⟩) lt.length lt.length], row 5 b (bs.map byteV), row 4 lb (lt.map boolV)]) := by
  refine Sat.enter Try.func29 rfl Try.ntmps29 rfl (fun c R => ?_)
  try simp only [List.cons_append, List.nil_append]
  refine T.seq ?_
  refine T.reg ?_
  refine TO.p (DP.as (by conv => lhs; whnf)) ?_
  refine TO.nil ?_
  refine TQ.nn ?_
  refine T.seq ?_
  refine T.reg ?_
  refine TO.p (DP.as (by conv => lhs; whnf)) ?_
  refine TO.nil ?_
  refine TQ.nn ?_
  refine T.seq ?_
  refine T.seq ?_
  refine T.reg ?_
  refine TO.p (DP.as (by conv => lhs; whnf)) ?_
  refine TO.nil ?_
  refine TQ.nn ?_
  refine T.block ?_
  refine T.loop (S := Nat × Value × List Spn) (0, .slice none 0 0, []) (fun ⟨i, v, ls⟩ => [(0, .pointer (some ⟨r, 0, none⟩)), (3, v), (4, .int .i64 (i : Nat))]) (fun ⟨i, v, ls⟩ => sl 42 2 v ls.length (spans ls) :: row 63 r [.slice (some ⟨b, 0, none⟩) bs.length bs.length, .slice (some ⟨lb, 0, none⟩) lt.length lt.length] :: row 5 b ((bs).map byteV) :: row 4 lb ((lt).map boolV) :: R) (fun ⟨i, v, ls⟩ => i ≤ lt.length ∧ SpI lt i ls) (fun ⟨i, v, ls⟩ => lt.length - i) ?_ ?_ ?_ ?_
  · (repeat first | exact trivial | refine ⟨rfl, ?_⟩)
  · exact ⟨Nat.zero_le _, SpI.nil lt⟩
  · (refine Ent.trans (Ent.nil (e := 42) (sz := 2)) ?_; (refine Ent.imp ?_; repeat first | exact Imp.refl _ | exact Imp.nil _ | (apply Imp.pull; focus ((repeat first | exact Del.head _ _ | apply Del.tail); done)) | (apply Imp.row; focus ((repeat first | exact Del.head _ _ | apply Del.tail); done)) | apply Imp.drop))
  rintro ⟨i, v, ls⟩ g hI
  try dsimp only
  refine T.seq ?_
  refine T.seq ?_
  refine T.reg ?_
  refine TO.p (DP.mv (by conv => lhs; whnf)) ?_
  refine TO.p (DP.mv (by conv => lhs; whnf)) ?_
  refine TO.p (DP.nck rfl) ?_
  refine TO.p (DP.fa 0 rfl Try.underlying63 rfl rfl sz49) ?_
  refine TO.d (D.ldR rfl pl49 (by (repeat first | exact LMem.head _ _ | apply LMem.tail)) (by rfl)) ?_
  refine TO.p (DP.lenS rfl Try.underlying49) ?_
  refine TO.p (DP.lss rfl rfl) ?_
  refine TO.nil ?_
  refine TQ.nn ?_
  refine T.condD rfl (fun hc0 => ?_) (fun hc0 => ?_)
  · obtain ⟨hi, hI⟩ := hI
    obtain ⟨y, hy⟩ := get_some (l := lt) (i := i) (by omega)
    have hll := hI.1.len (by omega)
    refine T.skip ?_
    refine TQ.nn ?_
    refine T.seq ?_
    refine T.block ?_
    refine T.seq ?_
    refine T.seq ?_
    refine T.reg ?_
    refine TO.p (DP.mv (by conv => lhs; whnf)) ?_
    refine TO.p (DP.nck rfl) ?_
    refine TO.p (DP.fa 1 rfl Try.underlying63 rfl rfl sz61) ?_
    refine TO.d (D.ldR rfl pl61 (by (repeat first | exact LMem.head _ _ | apply LMem.tail)) (by rfl)) ?_
    refine TO.p (DP.mv (by conv => lhs; whnf)) ?_
    refine TO.p (DP.to (v' := .pointer (some ⟨lb, i, none⟩)) (DP.ias rfl rfl Try.underlying61 sz4 (by omega)) (by simp)) ?_
    refine TO.d (D.ldR (v := .bool y) rfl pl4 (by (repeat first | exact LMem.head _ _ | apply LMem.tail)) (map_bool hy)) ?_
    refine TO.p (DP.not rfl) ?_
    refine TO.nil ?_
    refine TQ.nn ?_
    refine T.condB rfl (fun hc1 => ?_) (fun hc1 => ?_)
    · have hnx := hI.no (show lt[i]? = some false by cases y; exact hy; cases hc1)
      refine T.exit ?_
      refine TQ.ne ?_
      refine TQ.be ?_
      refine TQ.nn ?_
      refine T.reg ?_
      refine TO.p (DP.mv (by conv => lhs; whnf)) ?_
      refine TO.p (DP.add (b := 1) rfl rfl (l := 9223372036854775808) rfl (by omega)) ?_
      refine TO.p (DP.as (by conv => lhs; whnf)) ?_
      refine TO.nil ?_
      refine TQ.round (i + 1, v, ls) rfl ?_ ?_ ?_ ?_
      · (repeat first | exact trivial | refine ⟨rfl, ?_⟩)
      · exact ⟨by (try dsimp only); omega, hnx⟩
      · (dsimp only; omega)
      · (dsimp only; (refine Ent.imp ?_; repeat first | exact Imp.refl _ | exact Imp.nil _ | (apply Imp.pull; focus ((repeat first | exact Del.head _ _ | apply Del.tail); done)) | (apply Imp.row; focus ((repeat first | exact Del.head _ _ | apply Del.tail); done)) | apply Imp.drop))
    · have hy1 : lt[i]? = some true := by cases y; cases hc1; exact hy
      refine T.skip ?_
      refine TQ.nn ?_
      refine T.seq ?_
      refine T.reg ?_
      refine TO.p (DP.mv (by conv => lhs; whnf)) ?_
      refine TO.p (DP.gtr (b := 0) rfl rfl) ?_
      refine TO.pB (DP.mv (by conv => lhs; whnf)) (fun hg24 => ?_) (fun hg24 => ?_)
      · obtain ⟨j, rfl⟩ : ∃ j, i = j + 1 := ⟨i - 1, by omega⟩
        obtain ⟨y2, hy2⟩ := get_some (l := lt) (i := j) (by omega)
        refine TO.onP rfl (DP.mv (by conv => lhs; whnf)) ?_
        refine TO.onP rfl (DP.nck rfl) ?_
        refine TO.onP rfl (DP.fa 1 rfl Try.underlying63 rfl rfl sz61) ?_
        refine TO.onD rfl (D.ldR rfl pl61 (by (repeat first | exact LMem.head _ _ | apply LMem.tail)) (by rfl)) ?_
        refine TO.onP rfl (DP.mv (by conv => lhs; whnf)) ?_
        refine TO.onP rfl (DP.to (v' := .int .i64 (j : Nat)) (DP.sub (b := 1) rfl rfl (l := 9223372036854775808) rfl (by omega) (by omega)) rfl) ?_
        refine TO.onP rfl (DP.to (v' := .pointer (some ⟨lb, j, none⟩)) (DP.ias rfl rfl Try.underlying61 sz4 (by omega)) (by simp)) ?_
        refine TO.onD rfl (D.ldR (v := .bool y2) rfl pl4 (by (repeat first | exact LMem.head _ _ | apply LMem.tail)) (map_bool hy2)) ?_
        refine TO.p (DP.pkT rfl (by conv => lhs; whnf)) ?_
        refine TO.nil ?_
        refine TQ.nn ?_
        refine T.condB rfl (fun hc2 => ?_) (fun hc2 => ?_)
        · subst hc2
          obtain ⟨q, z, rfl, hz⟩ := hI.last hy2
          have hnx := hI.bump hz hy1
          have hqz : (q ++ [z])[q.length]? = some z := by simp
          have hln := spans_ln hqz
          have hz2 := hI.1.ge z (by simp)
          have hql : (q ++ [z]).length = q.length + 1 := by simp
          rw [hql] at hll
          refine T.reg ?_
          refine TO.p (DP.mv (by conv => lhs; whnf)) ?_
          refine TO.p (DP.mv (by conv => lhs; whnf)) ?_
          refine TO.d (D.lenO (by conv => lhs; whnf) Try.underlying36 (by (repeat first | exact LMem.head _ _ | apply LMem.tail))) ?_
          refine TO.p (DP.to (v' := .int .i64 (q.length : Nat)) (DP.sub (b := 1) rfl rfl (l := 9223372036854775808) rfl (by omega) (by omega)) (by rw [hql]; rfl)) ?_
          refine TO.d (D.iasO (by conv => lhs; whnf) rfl Try.underlying36 sz42 (by (repeat first | exact LMem.head _ _ | apply LMem.tail)) (by omega)) ?_
          refine TO.d (D.faO 1 (by conv => lhs; whnf) Try.underlying42 rfl rfl sz30 (by (repeat first | exact LMem.head _ _ | apply LMem.tail)) (by omega)) ?_
          refine TO.d (D.ldOF (by conv => lhs; whnf) pl30 (by (repeat first | exact LMem.head _ _ | apply LMem.tail)) hln (by omega)) ?_
          refine TO.p (DP.add (b := 1) rfl rfl (l := 4294967296) rfl (by omega)) ?_
          refine TO.d (D.iasO (by conv => lhs; whnf) rfl Try.underlying36 sz42 (by (repeat first | exact LMem.head _ _ | apply LMem.tail)) (by omega)) ?_
          refine TO.d (D.faO 1 (by conv => lhs; whnf) Try.underlying42 rfl rfl sz30 (by (repeat first | exact LMem.head _ _ | apply LMem.tail)) (by omega)) ?_
          refine TO.n0 (N.stOF (by conv => lhs; whnf) (by conv => lhs; whnf) sz30 (by (repeat first | exact Put.head _ _ _ | apply Put.tail)) (by omega) (by decide) rfl) ?_
          rintro _ _ ⟨rfl, rfl⟩
          rw [spans_set hqz, show (q ++ [z]).set q.length (z.1, z.2 + 1) = q ++ [(z.1, z.2 + 1)] by simp, show (q ++ [z]).length = (q ++ [(z.1, z.2 + 1)]).length by simp]
          refine TO.nil ?_
          refine TQ.bn ?_
          refine TQ.nn ?_
          refine T.reg ?_
          refine TO.p (DP.mv (by conv => lhs; whnf)) ?_
          refine TO.p (DP.add (b := 1) rfl rfl (l := 9223372036854775808) rfl (by omega)) ?_
          refine TO.p (DP.as (by conv => lhs; whnf)) ?_
          refine TO.nil ?_
          refine TQ.round (j + 1 + 1, v, q ++ [(z.1, z.2 + 1)]) rfl ?_ ?_ ?_ ?_
          · (repeat first | exact trivial | refine ⟨rfl, ?_⟩)
          · exact ⟨by (try dsimp only); omega, hnx⟩
          · (dsimp only; omega)
          · (dsimp only; (refine Ent.imp ?_; repeat first | exact Imp.refl _ | exact Imp.nil _ | (apply Imp.pull; focus ((repeat first | exact Del.head _ _ | apply Del.tail); done)) | (apply Imp.row; focus ((repeat first | exact Del.head _ _ | apply Del.tail); done)) | apply Imp.drop))
        · have hnx := hI.snoc hy1 (.inr ⟨j, rfl, by rw [hy2, hc2]⟩)
          refine T.reg ?_
          refine TO.p (DP.mv (by conv => lhs; whnf)) ?_
          refine TO.p (DP.mv (by conv => lhs; whnf)) ?_
          refine TO.p (DP.cv rfl is3 Try.underlying30 (l := 4294967296) rfl (by omega)) ?_
          refine TO.p (DP.bdL (vs := [(0, _), (1, _)]) (us := [_, _]) ⟨rfl, (by conv => lhs; whnf), rfl, (by conv => lhs; whnf), trivial⟩ pc42 zr42 rfl) ?_
          refine TO.n (N.bsL (len := 1) (vs := [(0, _)]) (us := [_, _]) ⟨rfl, (by conv => lhs; whnf), trivial⟩ Try.underlying36 sz42 zr42 rfl (by omega) rfl) ?_
          rintro _ _ ⟨b48, rfl, rfl⟩
          refine TO.n (N.app rfl rfl Try.underlying36 sz42 by42 zr42 rfl rfl (by (repeat first | exact Del.head _ _ | apply Del.tail)) (Src.sl (news := [.int .u32 ((j + 1 : Nat) : Int), .int .u32 ((1 : Nat) : Int)]) Try.underlying36 rfl (by (repeat first | exact LMem.head _ _ | apply LMem.tail)) (ReadsN.cells (fun i v hv => by simpa using hv))) (by intro u hu; simp at hu; rcases hu with rfl | rfl <;> rfl) (by omega)) ?_
          rintro u49 _ rfl
          rw [spans_snoc, ← len_snoc (ls) (j + 1) (1)]
          refine TO.p (DP.as (by conv => lhs; whnf)) ?_
          refine TO.nil ?_
          refine TQ.bn ?_
          refine TQ.nn ?_
          refine T.reg ?_
          refine TO.p (DP.mv (by conv => lhs; whnf)) ?_
          refine TO.p (DP.add (b := 1) rfl rfl (l := 9223372036854775808) rfl (by omega)) ?_
          refine TO.p (DP.as (by conv => lhs; whnf)) ?_
          refine TO.nil ?_
          refine TQ.round (j + 1 + 1, u49, ls ++ [(j + 1, 1)]) rfl ?_ ?_ ?_ ?_
          · (repeat first | exact trivial | refine ⟨rfl, ?_⟩)
          · exact ⟨by (try dsimp only); omega, hnx⟩
          · (dsimp only; omega)
          · (dsimp only; (refine Ent.imp ?_; repeat first | exact Imp.refl _ | exact Imp.nil _ | (apply Imp.pull; focus ((repeat first | exact Del.head _ _ | apply Del.tail); done)) | (apply Imp.row; focus ((repeat first | exact Del.head _ _ | apply Del.tail); done)) | apply Imp.drop))
      · have hnx := hI.snoc hy1 (.inl (by omega))
        refine TO.off rfl rfl ?_
        refine TO.off rfl rfl ?_
        refine TO.off rfl rfl ?_
        refine TO.off rfl rfl ?_
        refine TO.off rfl rfl ?_
        refine TO.off rfl rfl ?_
        refine TO.off rfl rfl ?_
        refine TO.off rfl rfl ?_
        refine TO.p (DP.pkF rfl (by conv => lhs; whnf)) ?_
        refine TO.nil ?_
        refine TQ.nn ?_
        refine T.condF rfl ?_
        refine T.reg ?_
        refine TO.p (DP.mv (by conv => lhs; whnf)) ?_
        refine TO.p (DP.mv (by conv => lhs; whnf)) ?_
        refine TO.p (DP.cv rfl is3 Try.underlying30 (l := 4294967296) rfl (by omega)) ?_
        refine TO.p (DP.bdL (vs := [(0, _), (1, _)]) (us := [_, _]) ⟨rfl, (by conv => lhs; whnf), rfl, (by conv => lhs; whnf), trivial⟩ pc42 zr42 rfl) ?_
        refine TO.n (N.bsL (len := 1) (vs := [(0, _)]) (us := [_, _]) ⟨rfl, (by conv => lhs; whnf), trivial⟩ Try.underlying36 sz42 zr42 rfl (by omega) rfl) ?_
        rintro _ _ ⟨b48, rfl, rfl⟩
        refine TO.n (N.app rfl rfl Try.underlying36 sz42 by42 zr42 rfl rfl (by (repeat first | exact Del.head _ _ | apply Del.tail)) (Src.sl (news := [.int .u32 ((i : Nat) : Int), .int .u32 ((1 : Nat) : Int)]) Try.underlying36 rfl (by (repeat first | exact LMem.head _ _ | apply LMem.tail)) (ReadsN.cells (fun i v hv => by simpa using hv))) (by intro u hu; simp at hu; rcases hu with rfl | rfl <;> rfl) (by omega)) ?_
        rintro u49 _ rfl
        rw [spans_snoc, ← len_snoc (ls) (i) (1)]
        refine TO.p (DP.as (by conv => lhs; whnf)) ?_
        refine TO.nil ?_
        refine TQ.bn ?_
        refine TQ.nn ?_
        refine T.reg ?_
        refine TO.p (DP.mv (by conv => lhs; whnf)) ?_
        refine TO.p (DP.add (b := 1) rfl rfl (l := 9223372036854775808) rfl (by omega)) ?_
        refine TO.p (DP.as (by conv => lhs; whnf)) ?_
        refine TO.nil ?_
        refine TQ.round (i + 1, u49, ls ++ [(i, 1)]) rfl ?_ ?_ ?_ ?_
        · (repeat first | exact trivial | refine ⟨rfl, ?_⟩)
        · exact ⟨by (try dsimp only); omega, hnx⟩
        · (dsimp only; omega)
        · (dsimp only; (refine Ent.imp ?_; repeat first | exact Imp.refl _ | exact Imp.nil _ | (apply Imp.pull; focus ((repeat first | exact Del.head _ _ | apply Del.tail); done)) | (apply Imp.row; focus ((repeat first | exact Del.head _ _ | apply Del.tail); done)) | apply Imp.drop))
  · obtain ⟨hi, hI⟩ := hI
    obtain rfl : i = lt.length := by omega
    refine T.exit ?_
    refine TQ.ne ?_
    refine TQ.le ?_
    refine TQ.be ?_
    refine TQ.nn ?_
    refine T.seq ?_
    refine T.reg ?_
    refine TO.p (DP.mv (by conv => lhs; whnf)) ?_
    refine TO.p (DP.as (by conv => lhs; whnf)) ?_
    refine TO.nil ?_
    refine TQ.nn ?_
    refine T.ret ?_
    refine TQ.ret (vs := [v]) (L' := [sl 42 2 v ls.length (spans ls), row 63 r [.slice (some ⟨b, 0, none⟩) bs.length bs.length, .slice (some ⟨lb, 0, none⟩) lt.length lt.length], row 5 b (bs.map byteV), row 4 lb (lt.map boolV)]) rfl ⟨rfl, rfl⟩ ⟨ls, hI, rfl⟩ (by (refine Ent.imp ?_; repeat first | exact Imp.refl _ | exact Imp.nil _ | (apply Imp.pull; focus ((repeat first | exact Del.head _ _ | apply Del.tail); done)) | (apply Imp.row; focus ((repeat first | exact Del.head _ _ | apply Del.tail); done)) | apply Imp.drop))
end Go.Proofs.Ytpidkdkbgjnhlaa
