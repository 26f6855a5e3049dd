/- Lemmas for the proofs of this seat: no statement of the seat is claimed here. -/
import Derived.Test.YtfgpnipnaaeafaaKe
set_option linter.all false

namespace Go.Proofs.Ytfgpnipnaaeafaa
open Go Pw
set_option maxRecDepth 20000
theorem part_out (p n at_ m b : Nat) (v : Value) (hn : n ≤ 1048576) (ha : at_ < 4294967296) (hm : m < 9223372036854775808) (h : n < at_ + m) :
    Sat Try.prog 41 [.pointer (some ⟨p, 0, none⟩), .int .u32 at_, .int .i64 m] [row 70 p [.slice (some ⟨b, 0, none⟩) n n, v]] (fun u L' => u = .tuple #[.slice none 0 0, .int .i64 10] ∧ L' = [row 70 p [.slice (some ⟨b, 0, none⟩) n n, v]]) := by
  refine Sat.enter Try.func41 rfl Try.ntmps41 rfl (fun c R => ?_)
  try simp only [List.cons_append, List.nil_append]
  refine T.seq ?_
  refine T.reg ?_
  refine TO.p (DP.as (by conv => lhs; whnf)) ?_
  refine TO.p (DP.as (by conv => lhs; whnf)) ?_
  refine TO.nil ?_
  refine TQ.nn ?_
  refine T.seq ?_
  refine T.block ?_
  refine T.seq ?_
  refine T.reg ?_
  refine TO.p (DP.mv (by conv => lhs; whnf)) ?_
  refine TO.p (DP.peqS rfl rfl Try.underlying25) ?_
  refine TO.p (DP.as (by conv => lhs; whnf)) ?_
  refine TO.nil ?_
  refine TQ.nn ?_
  refine T.condF rfl ?_
  refine T.seq ?_
  refine T.reg ?_
  refine TO.p (DP.mv (by conv => lhs; whnf)) ?_
  refine TO.p (DP.mv (by conv => lhs; whnf)) ?_
  refine TO.p (DP.nck rfl) ?_
  refine TO.p (DP.fa 0 rfl Try.underlying70 rfl rfl sz59) ?_
  refine TO.d (D.ldR rfl pl59 (by (repeat first | exact LMem.head _ _ | apply LMem.tail)) (by rfl)) ?_
  refine TO.p (DP.lenS rfl Try.underlying59) ?_
  refine TO.p (DP.gtr rfl rfl) ?_
  refine TO.pB (DP.mv (by conv => lhs; whnf)) (fun hg19 => ?_) (fun hg19 => ?_)
  · obtain hgx := hg19
    refine TO.off rfl rfl ?_
    refine TO.off rfl rfl ?_
    refine TO.off rfl rfl ?_
    refine TO.off rfl rfl ?_
    refine TO.off rfl rfl ?_
    refine TO.off rfl rfl ?_
    refine TO.off rfl rfl ?_
    refine TO.off rfl rfl ?_
    refine TO.off rfl rfl ?_
    refine TO.off rfl rfl ?_
    refine TO.off rfl rfl ?_
    refine TO.off rfl rfl ?_
    refine TO.p (DP.pkT rfl (by conv => lhs; whnf)) ?_
    refine TO.p (DP.as (by conv => lhs; whnf)) ?_
    refine TO.nil ?_
    refine TQ.nn ?_
    refine T.condT rfl ?_
    refine T.seq ?_
    refine T.reg ?_
    refine TO.p (DP.as (by conv => lhs; whnf)) ?_
    refine TO.p (DP.as (by conv => lhs; whnf)) ?_
    refine TO.nil ?_
    refine TQ.nn ?_
    refine T.ret ?_
    refine TQ.br ?_
    refine TQ.nr ?_
    refine TQ.ret (vs := [.slice none 0 0, .int .i64 10]) (L' := [_]) rfl ⟨rfl, rfl, rfl⟩ ⟨rfl, rfl⟩ (by (refine Ent.imp ?_; repeat first | exact Imp.refl _ | exact Imp.nil _ | (apply Imp.pull; focus ((repeat first | exact Del.head _ _ | apply Del.tail); done)) | (apply Imp.row; focus ((repeat first | exact Del.head _ _ | apply Del.tail); done)) | apply Imp.drop))
  · refine TO.onP rfl (DP.mv (by conv => lhs; whnf)) ?_
    refine TO.onP rfl (DP.cv rfl is30 Try.underlying63 (l := 18446744073709551616) rfl (by omega)) ?_
    refine TO.onP rfl (DP.mv (by conv => lhs; whnf)) ?_
    refine TO.onP rfl (DP.cv rfl is3 Try.underlying63 (l := 18446744073709551616) rfl (by omega)) ?_
    refine TO.onP rfl (DP.add rfl rfl (l := 18446744073709551616) rfl (by omega)) ?_
    refine TO.onP rfl (DP.mv (by conv => lhs; whnf)) ?_
    refine TO.onP rfl (DP.nck rfl) ?_
    refine TO.onP rfl (DP.fa 0 rfl Try.underlying70 rfl rfl sz59) ?_
    refine TO.onD rfl (D.ldR rfl pl59 (by (repeat first | exact LMem.head _ _ | apply LMem.tail)) (by rfl)) ?_
    refine TO.onP rfl (DP.lenS rfl Try.underlying59) ?_
    refine TO.onP rfl (DP.cv rfl is3 Try.underlying63 (l := 18446744073709551616) rfl (by omega)) ?_
    refine TO.onP rfl (DP.gtr rfl rfl) ?_
    refine TO.p (DP.pkF rfl (by conv => lhs; whnf)) ?_
    refine TO.p (DP.as (by conv => lhs; whnf)) ?_
    refine TO.nil ?_
    refine TQ.nn ?_
    refine T.condD rfl (fun hc1 => ?_) (fun hc1 => ?_)
    · refine T.seq ?_
      refine T.reg ?_
      refine TO.p (DP.as (by conv => lhs; whnf)) ?_
      refine TO.p (DP.as (by conv => lhs; whnf)) ?_
      refine TO.nil ?_
      refine TQ.nn ?_
      refine T.ret ?_
      refine TQ.br ?_
      refine TQ.nr ?_
      refine TQ.ret (vs := [.slice none 0 0, .int .i64 10]) (L' := [_]) rfl ⟨rfl, rfl, rfl⟩ ⟨rfl, rfl⟩ (by (refine Ent.imp ?_; repeat first | exact Imp.refl _ | exact Imp.nil _ | (apply Imp.pull; focus ((repeat first | exact Del.head _ _ | apply Del.tail); done)) | (apply Imp.row; focus ((repeat first | exact Del.head _ _ | apply Del.tail); done)) | apply Imp.drop))
    · exact absurd h (by omega)

theorem part_nil (at_ : Nat) (m : Int) :
    Sat Try.prog 41 [.pointer none, .int .u32 at_, .int .i64 m] [] (fun u L' => u = .tuple #[.slice none 0 0, .int .i64 1] ∧ L' = []) := by
  refine Sat.enter Try.func41 rfl Try.ntmps41 rfl (fun c R => ?_)
  try simp only [List.cons_append, List.nil_append]
  refine T.seq ?_
  refine T.reg ?_
  refine TO.p (DP.as (by conv => lhs; whnf)) ?_
  refine TO.p (DP.as (by conv => lhs; whnf)) ?_
  refine TO.nil ?_
  refine TQ.nn ?_
  refine T.seq ?_
  refine T.block ?_
  refine T.seq ?_
  refine T.reg ?_
  refine TO.p (DP.mv (by conv => lhs; whnf)) ?_
  refine TO.p (DP.peq0 rfl rfl Try.underlying25) ?_
  refine TO.p (DP.as (by conv => lhs; whnf)) ?_
  refine TO.nil ?_
  refine TQ.nn ?_
  refine T.condT rfl ?_
  refine T.seq ?_
  refine T.reg ?_
  refine TO.p (DP.as (by conv => lhs; whnf)) ?_
  refine TO.p (DP.as (by conv => lhs; whnf)) ?_
  refine TO.nil ?_
  refine TQ.nn ?_
  refine T.ret ?_
  refine TQ.br ?_
  refine TQ.nr ?_
  refine TQ.ret (vs := [.slice none 0 0, .int .i64 1]) (L' := []) rfl ⟨rfl, rfl, rfl⟩ ⟨rfl, rfl⟩ (by (refine Ent.imp ?_; repeat first | exact Imp.refl _ | exact Imp.nil _ | (apply Imp.pull; focus ((repeat first | exact Del.head _ _ | apply Del.tail); done)) | (apply Imp.row; focus ((repeat first | exact Del.head _ _ | apply Del.tail); done)) | apply Imp.drop))

theorem read_neg (p b at_ : Nat) (v : Value) (bs : List UInt8) (ss : List Spn) (n : Int) (hn : n < 0) :
    Sat Try.prog 21 [.pointer (some ⟨p, 0, none⟩), .int .u32 at_, .int .i64 n] [row 70 p [.slice (some ⟨b, 0, none⟩) bs.length bs.length, v], row 5 b (bs.map byteV), sl 110 2 v ss.length (spans ss)] (fun u L' => u = .tuple #[str [], .int .i64 2] ∧ L' = [row 70 p [.slice (some ⟨b, 0, none⟩) bs.length bs.length, v], row 5 b (bs.map byteV), sl 110 2 v ss.length (spans ss)]) := by
  refine Sat.enter Try.func21 rfl Try.ntmps21 rfl (fun c R => ?_)
  try simp only [List.cons_append, List.nil_append]
  refine T.seq ?_
  refine T.reg ?_
  refine TO.p (DP.as (by conv => lhs; whnf)) ?_
  refine TO.p (DP.as (by conv => lhs; whnf)) ?_
  refine TO.nil ?_
  refine TQ.nn ?_
  refine T.seq ?_
  refine T.seq ?_
  refine T.reg ?_
  refine TO.p (DP.mv (by conv => lhs; whnf)) ?_
  refine TO.p (DP.pneS rfl rfl Try.underlying25) ?_
  refine TO.p (DP.mv (by conv => lhs; whnf)) ?_
  refine TO.onP rfl (DP.mv (by conv => lhs; whnf)) ?_
  refine TO.onP rfl (DP.lssI rfl rfl) ?_
  refine TO.p (DP.pkT rfl (by conv => lhs; whnf)) ?_
  refine TO.nil ?_
  refine TQ.nn ?_
  refine T.condD rfl (fun hc0 => ?_) (fun hc0 => ?_)
  · refine T.seq ?_
    refine T.reg ?_
    refine TO.p (DP.as (by conv => lhs; whnf)) ?_
    refine TO.p (DP.as (by conv => lhs; whnf)) ?_
    refine TO.nil ?_
    refine TQ.nn ?_
    refine T.ret ?_
    refine TQ.nr ?_
    refine TQ.ret (vs := [str [], .int .i64 2]) (L' := [_, _, _]) rfl ⟨rfl, rfl, rfl⟩ ⟨rfl, rfl⟩ (by (refine Ent.imp ?_; repeat first | exact Imp.refl _ | exact Imp.nil _ | (apply Imp.pull; focus ((repeat first | exact Del.head _ _ | apply Del.tail); done)) | (apply Imp.row; focus ((repeat first | exact Del.head _ _ | apply Del.tail); done)) | apply Imp.drop))
  · exact absurd hn hc0

theorem read_ok (p b at_ : Nat) (v : Value) (bs : List UInt8) (ss : List Spn) (m : Nat) (hbs : bs.length ≤ 1048576) (hlen : ss.length ≤ 1048576) (hb : ∀ s ∈ ss, s.1 + s.2 ≤ 1048576) (ha : at_ < 4294967296) (h : at_ + m ≤ bs.length) :
    Sat Try.prog 21 [.pointer (some ⟨p, 0, none⟩), .int .u32 at_, .int .i64 m] [row 70 p [.slice (some ⟨b, 0, none⟩) bs.length bs.length, v], row 5 b (bs.map byteV), sl 110 2 v ss.length (spans ss)] (fun u L' => u = .tuple #[str ((bs.drop at_).take m), .int .i64 0] ∧ L' = [row 70 p [.slice (some ⟨b, 0, none⟩) bs.length bs.length, v], row 5 b (bs.map byteV), sl 110 2 v ss.length (spans ss)]) := by
  refine Sat.enter Try.func21 rfl Try.ntmps21 rfl (fun c R => ?_)
  try simp only [List.cons_append, List.nil_append]
  refine T.seq ?_
  refine T.reg ?_
  refine TO.p (DP.as (by conv => lhs; whnf)) ?_
  refine TO.p (DP.as (by conv => lhs; whnf)) ?_
  refine TO.nil ?_
  refine TQ.nn ?_
  refine T.seq ?_
  refine T.seq ?_
  refine T.reg ?_
  refine TO.p (DP.mv (by conv => lhs; whnf)) ?_
  refine TO.p (DP.pneS rfl rfl Try.underlying25) ?_
  refine TO.p (DP.mv (by conv => lhs; whnf)) ?_
  refine TO.onP rfl (DP.mv (by conv => lhs; whnf)) ?_
  refine TO.onP rfl (DP.lss (b := 0) rfl rfl) ?_
  refine TO.p (DP.pkT rfl (by conv => lhs; whnf)) ?_
  refine TO.nil ?_
  refine TQ.nn ?_
  refine T.condD rfl (fun hc0 => ?_) (fun hc0 => ?_)
  · exact absurd hc0 (by omega)
  · refine T.skip ?_
    refine TQ.nn ?_
    refine T.seq ?_
    refine T.reg ?_
    refine TO.p (DP.mv (by conv => lhs; whnf)) ?_
    refine TO.p (DP.mv (by conv => lhs; whnf)) ?_
    refine TO.p (DP.mv (by conv => lhs; whnf)) ?_
    refine TO.p (DP.to (v' := .int .i64 (m : Nat)) (DP.maxN (b := 0) rfl rfl) (by simp)) ?_
    refine TO.n (N.callF (part_ok p bs.length at_ m b v hbs ha h) Try.call41 ⟨rfl, rfl, rfl, trivial⟩ (by (repeat first | exact Pick.nil _ | (apply Pick.cons; focus ((repeat first | exact Del.head _ _ | apply Del.tail); done))))) ?_
    rintro u21 _ ⟨_, ⟨rfl, rfl⟩, rfl⟩
    try simp only [List.cons_append, List.nil_append]
    refine TO.p (DP.mv (by conv => lhs; whnf)) ?_
    refine TO.p (DP.ex rfl rfl) ?_
    refine TO.p (DP.ex rfl rfl) ?_
    refine TO.p (DP.as (by conv => lhs; whnf)) ?_
    refine TO.p (DP.as (by conv => lhs; whnf)) ?_
    refine TO.nil ?_
    refine TQ.nn ?_
    refine T.seq ?_
    refine T.reg ?_
    refine TO.p (DP.mv (by conv => lhs; whnf)) ?_
    refine TO.d (D.cbs (l := (bs.drop at_).take m) (A := row 5 b (bs.map byteV)) rfl Try.underlying59 Try.underlying9 Try.underlying5 (len_part h) (by (repeat first | exact LMem.head _ _ | apply LMem.tail)) (ReadsN.row rd_part)) ?_
    refine TO.p (DP.mv (by conv => lhs; whnf)) ?_
    refine TO.p (DP.as (by conv => lhs; whnf)) ?_
    refine TO.p (DP.as (by conv => lhs; whnf)) ?_
    refine TO.nil ?_
    refine TQ.nn ?_
    refine T.ret ?_
    refine TQ.ret (vs := [str ((bs.drop at_).take m), .int .i64 0]) (L' := [_, _, _]) rfl ⟨rfl, rfl, rfl⟩ ⟨rfl, rfl⟩ (by (refine Ent.imp ?_; repeat first | exact Imp.refl _ | exact Imp.nil _ | (apply Imp.pull; focus ((repeat first | exact Del.head _ _ | apply Del.tail); done)) | (apply Imp.row; focus ((repeat first | exact Del.head _ _ | apply Del.tail); done)) | apply Imp.drop))

theorem read_out (p b at_ : Nat) (v : Value) (bs : List UInt8) (ss : List Spn) (m : Nat) (hbs : bs.length ≤ 1048576) (hlen : ss.length ≤ 1048576) (hb : ∀ s ∈ ss, s.1 + s.2 ≤ 1048576) (ha : at_ < 4294967296) (hm : m < 9223372036854775808) (h : bs.length < at_ + m) :
    Sat Try.prog 21 [.pointer (some ⟨p, 0, none⟩), .int .u32 at_, .int .i64 m] [row 70 p [.slice (some ⟨b, 0, none⟩) bs.length bs.length, v], row 5 b (bs.map byteV), sl 110 2 v ss.length (spans ss)] (fun u L' => u = .tuple #[str [], .int .i64 10] ∧ L' = [row 70 p [.slice (some ⟨b, 0, none⟩) bs.length bs.length, v], row 5 b (bs.map byteV), sl 110 2 v ss.length (spans ss)]) := by
  refine Sat.enter Try.func21 rfl Try.ntmps21 rfl (fun c R => ?_)
  try simp only [List.cons_append, List.nil_append]
  refine T.seq ?_
  refine T.reg ?_
  refine TO.p (DP.as (by conv => lhs; whnf)) ?_
  refine TO.p (DP.as (by conv => lhs; whnf)) ?_
  refine TO.nil ?_
  refine TQ.nn ?_
  refine T.seq ?_
  refine T.seq ?_
  refine T.reg ?_
  refine TO.p (DP.mv (by conv => lhs; whnf)) ?_
  refine TO.p (DP.pneS rfl rfl Try.underlying25) ?_
  refine TO.p (DP.mv (by conv => lhs; whnf)) ?_
  refine TO.onP rfl (DP.mv (by conv => lhs; whnf)) ?_
  refine TO.onP rfl (DP.lss (b := 0) rfl rfl) ?_
  refine TO.p (DP.pkT rfl (by conv => lhs; whnf)) ?_
  refine TO.nil ?_
  refine TQ.nn ?_
  refine T.condD rfl (fun hc0 => ?_) (fun hc0 => ?_)
  · exact absurd hc0 (by omega)
  · refine T.skip ?_
    refine TQ.nn ?_
    refine T.seq ?_
    refine T.reg ?_
    refine TO.p (DP.mv (by conv => lhs; whnf)) ?_
    refine TO.p (DP.mv (by conv => lhs; whnf)) ?_
    refine TO.p (DP.mv (by conv => lhs; whnf)) ?_
    refine TO.p (DP.to (v' := .int .i64 (m : Nat)) (DP.maxN (b := 0) rfl rfl) (by simp)) ?_
    refine TO.n (N.callF (part_out p bs.length at_ m b v hbs ha hm h) Try.call41 ⟨rfl, rfl, rfl, trivial⟩ (by (repeat first | exact Pick.nil _ | (apply Pick.cons; focus ((repeat first | exact Del.head _ _ | apply Del.tail); done))))) ?_
    rintro u21 _ ⟨_, ⟨rfl, rfl⟩, rfl⟩
    try simp only [List.cons_append, List.nil_append]
    refine TO.p (DP.mv (by conv => lhs; whnf)) ?_
    refine TO.p (DP.ex rfl rfl) ?_
    refine TO.p (DP.ex rfl rfl) ?_
    refine TO.p (DP.as (by conv => lhs; whnf)) ?_
    refine TO.p (DP.as (by conv => lhs; whnf)) ?_
    refine TO.nil ?_
    refine TQ.nn ?_
    refine T.seq ?_
    refine T.reg ?_
    refine TO.p (DP.mv (by conv => lhs; whnf)) ?_
    refine TO.p (DP.cbs0 rfl Try.underlying59 Try.underlying9 Try.underlying5) ?_
    refine TO.p (DP.mv (by conv => lhs; whnf)) ?_
    refine TO.p (DP.as (by conv => lhs; whnf)) ?_
    refine TO.p (DP.as (by conv => lhs; whnf)) ?_
    refine TO.nil ?_
    refine TQ.nn ?_
    refine T.ret ?_
    refine TQ.ret (vs := [str [], .int .i64 10]) (L' := [_, _, _]) rfl ⟨rfl, rfl, rfl⟩ ⟨rfl, rfl⟩ (by (refine Ent.imp ?_; repeat first | exact Imp.refl _ | exact Imp.nil _ | (apply Imp.pull; focus ((repeat first | exact Del.head _ _ | apply Del.tail); done)) | (apply Imp.row; focus ((repeat first | exact Del.head _ _ | apply Del.tail); done)) | apply Imp.drop))

theorem read_nil (at_ : Nat) (n : Int) :
    Sat Try.prog 21 [.pointer none, .int .u32 at_, .int .i64 n] [] (fun u L' => u = .tuple #[str [], .int .i64 1] ∧ L' = []) := by
  refine Sat.enter Try.func21 rfl Try.ntmps21 rfl (fun c R => ?_)
  try simp only [List.cons_append, List.nil_append]
  refine T.seq ?_
  refine T.reg ?_
  refine TO.p (DP.as (by conv => lhs; whnf)) ?_
  refine TO.p (DP.as (by conv => lhs; whnf)) ?_
  refine TO.nil ?_
  refine TQ.nn ?_
  refine T.seq ?_
  refine T.seq ?_
  refine T.reg ?_
  refine TO.p (DP.mv (by conv => lhs; whnf)) ?_
  refine TO.p (DP.pne0 rfl rfl Try.underlying25) ?_
  refine TO.p (DP.mv (by conv => lhs; whnf)) ?_
  refine TO.off rfl rfl ?_
  refine TO.off rfl rfl ?_
  refine TO.p (DP.pkF rfl (by conv => lhs; whnf)) ?_
  refine TO.nil ?_
  refine TQ.nn ?_
  refine T.condF rfl ?_
  refine T.skip ?_
  refine TQ.nn ?_
  refine T.seq ?_
  refine T.reg ?_
  refine TO.p (DP.mv (by conv => lhs; whnf)) ?_
  refine TO.p (DP.mv (by conv => lhs; whnf)) ?_
  refine TO.p (DP.mv (by conv => lhs; whnf)) ?_
  refine TO.p (DP.maxI rfl rfl) ?_
  refine TO.n (N.callF (part_nil at_ (max n 0)) Try.call41 ⟨rfl, rfl, rfl, trivial⟩ (by (repeat first | exact Pick.nil _ | (apply Pick.cons; focus ((repeat first | exact Del.head _ _ | apply Del.tail); done))))) ?_
  rintro u21 _ ⟨_, ⟨rfl, rfl⟩, rfl⟩
  try simp only [List.cons_append, List.nil_append]
  refine TO.p (DP.mv (by conv => lhs; whnf)) ?_
  refine TO.p (DP.ex rfl rfl) ?_
  refine TO.p (DP.ex rfl rfl) ?_
  refine TO.p (DP.as (by conv => lhs; whnf)) ?_
  refine TO.p (DP.as (by conv => lhs; whnf)) ?_
  refine TO.nil ?_
  refine TQ.nn ?_
  refine T.seq ?_
  refine T.reg ?_
  refine TO.p (DP.mv (by conv => lhs; whnf)) ?_
  refine TO.p (DP.cbs0 rfl Try.underlying59 Try.underlying9 Try.underlying5) ?_
  refine TO.p (DP.mv (by conv => lhs; whnf)) ?_
  refine TO.p (DP.as (by conv => lhs; whnf)) ?_
  refine TO.p (DP.as (by conv => lhs; whnf)) ?_
  refine TO.nil ?_
  refine TQ.nn ?_
  refine T.ret ?_
  refine TQ.ret (vs := [str [], .int .i64 1]) (L' := []) rfl ⟨rfl, rfl, rfl⟩ ⟨rfl, rfl⟩ (by (refine Ent.imp ?_; repeat first | exact Imp.refl _ | exact Imp.nil _ | (apply Imp.pull; focus ((repeat first | exact Del.head _ _ | apply Del.tail); done)) | (apply Imp.row; focus ((repeat first | exact Del.head _ _ | apply Del.tail); done)) | apply Imp.drop))

theorem write_out (p b at_ : Nat) (v : Value) (bs : List UInt8) (ss : List Spn) (s : List UInt8) (hbs : bs.length ≤ 1048576) (hlen : ss.length ≤ 1048576) (hb : ∀ s ∈ ss, s.1 + s.2 ≤ 1048576) (ha : at_ < 4294967296) (hm : s.length < 9223372036854775808) (h : bs.length < at_ + s.length) :
    Sat Try.prog 31 [.pointer (some ⟨p, 0, none⟩), .int .u32 at_, str s] [row 70 p [.slice (some ⟨b, 0, none⟩) bs.length bs.length, v], row 5 b (bs.map byteV), sl 110 2 v ss.length (spans ss)] (fun u L' => u = .int .i64 10 ∧ L' = [row 70 p [.slice (some ⟨b, 0, none⟩) bs.length bs.length, v], row 5 b (bs.map byteV), sl 110 2 v ss.length (spans ss)]) := by
  refine Sat.enter Try.func31 rfl Try.ntmps31 rfl (fun c R => ?_)
  try simp only [List.cons_append, List.nil_append]
  refine T.seq ?_
  refine T.reg ?_
  refine TO.p (DP.as (by conv => lhs; whnf)) ?_
  refine TO.nil ?_
  refine TQ.nn ?_
  refine T.seq ?_
  refine T.reg ?_
  refine TO.p (DP.mv (by conv => lhs; whnf)) ?_
  refine TO.p (DP.mv (by conv => lhs; whnf)) ?_
  refine TO.p (DP.mv (by conv => lhs; whnf)) ?_
  refine TO.p (DP.lenT rfl Try.underlying9) ?_
  refine TO.n (N.callF (part_out p bs.length at_ s.length b v hbs ha hm h) Try.call41 ⟨rfl, rfl, rfl, trivial⟩ (by (repeat first | exact Pick.nil _ | (apply Pick.cons; focus ((repeat first | exact Del.head _ _ | apply Del.tail); done))))) ?_
  rintro u14 _ ⟨_, ⟨rfl, rfl⟩, rfl⟩
  try simp only [List.cons_append, List.nil_append]
  refine TO.p (DP.mv (by conv => lhs; whnf)) ?_
  refine TO.p (DP.ex rfl rfl) ?_
  refine TO.p (DP.ex rfl rfl) ?_
  refine TO.p (DP.as (by conv => lhs; whnf)) ?_
  refine TO.p (DP.as (by conv => lhs; whnf)) ?_
  refine TO.nil ?_
  refine TQ.nn ?_
  refine T.seq ?_
  refine T.block ?_
  refine T.seq ?_
  refine T.reg ?_
  refine TO.p (DP.mv (by conv => lhs; whnf)) ?_
  refine TO.p (DP.neq (a := 10) (b := 0) rfl rfl) ?_
  refine TO.p (DP.as (by conv => lhs; whnf)) ?_
  refine TO.nil ?_
  refine TQ.nn ?_
  refine T.condD rfl (fun hc0 => ?_) (fun hc0 => ?_)
  · refine T.seq ?_
    refine T.reg ?_
    refine TO.p (DP.mv (by conv => lhs; whnf)) ?_
    refine TO.p (DP.as (by conv => lhs; whnf)) ?_
    refine TO.nil ?_
    refine TQ.nn ?_
    refine T.ret ?_
    refine TQ.br ?_
    refine TQ.nr ?_
    refine TQ.ret (vs := [.int .i64 10]) (L' := [_, _, _]) rfl ⟨rfl, rfl⟩ ⟨rfl, rfl⟩ (by (refine Ent.imp ?_; repeat first | exact Imp.refl _ | exact Imp.nil _ | (apply Imp.pull; focus ((repeat first | exact Del.head _ _ | apply Del.tail); done)) | (apply Imp.row; focus ((repeat first | exact Del.head _ _ | apply Del.tail); done)) | apply Imp.drop))
  · exact absurd (by decide) hc0

theorem write_bad (p b at_ : Nat) (v : Value) (bs : List UInt8) (ss : List Spn) (s : List UInt8) (hbs : bs.length ≤ 1048576) (hlen : ss.length ≤ 1048576) (hb : ∀ s ∈ ss, s.1 + s.2 ≤ 1048576) (ha : at_ < 4294967296) (h : at_ + s.length ≤ bs.length) (hs : 0 < sharedN ss at_ s.length) :
    Sat Try.prog 31 [.pointer (some ⟨p, 0, none⟩), .int .u32 at_, str s] [row 70 p [.slice (some ⟨b, 0, none⟩) bs.length bs.length, v], row 5 b (bs.map byteV), sl 110 2 v ss.length (spans ss)] (fun u L' => u = .int .i64 11 ∧ L' = [row 70 p [.slice (some ⟨b, 0, none⟩) bs.length bs.length, v], row 5 b (bs.map byteV), sl 110 2 v ss.length (spans ss)]) := by
  refine Sat.enter Try.func31 rfl Try.ntmps31 rfl (fun c R => ?_)
  try simp only [List.cons_append, List.nil_append]
  refine T.seq ?_
  refine T.reg ?_
  refine TO.p (DP.as (by conv => lhs; whnf)) ?_
  refine TO.nil ?_
  refine TQ.nn ?_
  refine T.seq ?_
  refine T.reg ?_
  refine TO.p (DP.mv (by conv => lhs; whnf)) ?_
  refine TO.p (DP.mv (by conv => lhs; whnf)) ?_
  refine TO.p (DP.mv (by conv => lhs; whnf)) ?_
  refine TO.p (DP.lenT rfl Try.underlying9) ?_
  refine TO.n (N.callF (part_ok p bs.length at_ s.length b v hbs ha h) Try.call41 ⟨rfl, rfl, rfl, trivial⟩ (by (repeat first | exact Pick.nil _ | (apply Pick.cons; focus ((repeat first | exact Del.head _ _ | apply Del.tail); done))))) ?_
  rintro u14 _ ⟨_, ⟨rfl, rfl⟩, rfl⟩
  try simp only [List.cons_append, List.nil_append]
  refine TO.p (DP.mv (by conv => lhs; whnf)) ?_
  refine TO.p (DP.ex rfl rfl) ?_
  refine TO.p (DP.ex rfl rfl) ?_
  refine TO.p (DP.as (by conv => lhs; whnf)) ?_
  refine TO.p (DP.as (by conv => lhs; whnf)) ?_
  refine TO.nil ?_
  refine TQ.nn ?_
  refine T.seq ?_
  refine T.block ?_
  refine T.seq ?_
  refine T.reg ?_
  refine TO.p (DP.mv (by conv => lhs; whnf)) ?_
  refine TO.p (DP.neq (a := 0) (b := 0) rfl rfl) ?_
  refine TO.p (DP.as (by conv => lhs; whnf)) ?_
  refine TO.nil ?_
  refine TQ.nn ?_
  refine T.condD rfl (fun hc0 => ?_) (fun hc0 => ?_)
  · exact absurd rfl hc0
  · refine T.seq ?_
    refine T.reg ?_
    refine TO.p (DP.mv (by conv => lhs; whnf)) ?_
    refine TO.p (DP.mv (by conv => lhs; whnf)) ?_
    refine TO.p (DP.mv (by conv => lhs; whnf)) ?_
    refine TO.p (DP.lenT rfl Try.underlying9) ?_
    refine TO.p (DP.cv rfl is3 Try.underlying30 (l := 4294967296) rfl (by omega)) ?_
    refine TO.p (DP.bdL (vs := [(0, _), (1, _)]) (us := [_, _]) ⟨rfl, (by conv => lhs; whnf), rfl, (by conv => lhs; whnf), trivial⟩ pc110 zr110 rfl) ?_
    refine TO.n (N.callF (shared_spec p at_ s.length _ v ss hlen hb ha (by omega)) Try.call47 ⟨rfl, rfl, trivial⟩ (by (repeat first | exact Pick.nil _ | (apply Pick.cons; focus ((repeat first | exact Del.head _ _ | apply Del.tail); done))))) ?_
    rintro u28 _ ⟨_, ⟨rfl, rfl⟩, rfl⟩
    try simp only [List.cons_append, List.nil_append]
    refine TO.p (DP.gtr (b := 0) rfl rfl) ?_
    refine TO.p (DP.as (by conv => lhs; whnf)) ?_
    refine TO.nil ?_
    refine TQ.nn ?_
    refine T.condD rfl (fun hc1 => ?_) (fun hc1 => ?_)
    · refine T.seq ?_
      refine T.reg ?_
      refine TO.p (DP.as (by conv => lhs; whnf)) ?_
      refine TO.nil ?_
      refine TQ.nn ?_
      refine T.ret ?_
      refine TQ.br ?_
      refine TQ.nr ?_
      refine TQ.ret (vs := [.int .i64 11]) (L' := [_, _, _]) rfl ⟨rfl, rfl⟩ ⟨rfl, rfl⟩ (by (refine Ent.imp ?_; repeat first | exact Imp.refl _ | exact Imp.nil _ | (apply Imp.pull; focus ((repeat first | exact Del.head _ _ | apply Del.tail); done)) | (apply Imp.row; focus ((repeat first | exact Del.head _ _ | apply Del.tail); done)) | apply Imp.drop))
    · exact absurd hs (by omega)

theorem write_ok (p b at_ : Nat) (v : Value) (bs : List UInt8) (ss : List Spn) (s : List UInt8) (hbs : bs.length ≤ 1048576) (hlen : ss.length ≤ 1048576) (hb : ∀ s ∈ ss, s.1 + s.2 ≤ 1048576) (ha : at_ < 4294967296) (h : at_ + s.length ≤ bs.length) (hs : sharedN ss at_ s.length = 0) :
    Sat Try.prog 31 [.pointer (some ⟨p, 0, none⟩), .int .u32 at_, str s] [row 70 p [.slice (some ⟨b, 0, none⟩) bs.length bs.length, v], row 5 b (bs.map byteV), sl 110 2 v ss.length (spans ss)] (fun u L' => u = .int .i64 0 ∧ L' = [row 70 p [.slice (some ⟨b, 0, none⟩) bs.length bs.length, v], row 5 b ((putB bs at_ s).map byteV), sl 110 2 v ss.length (spans ss)]) := by
  refine Sat.enter Try.func31 rfl Try.ntmps31 rfl (fun c R => ?_)
  try simp only [List.cons_append, List.nil_append]
  refine T.seq ?_
  refine T.reg ?_
  refine TO.p (DP.as (by conv => lhs; whnf)) ?_
  refine TO.nil ?_
  refine TQ.nn ?_
  refine T.seq ?_
  refine T.reg ?_
  refine TO.p (DP.mv (by conv => lhs; whnf)) ?_
  refine TO.p (DP.mv (by conv => lhs; whnf)) ?_
  refine TO.p (DP.mv (by conv => lhs; whnf)) ?_
  refine TO.p (DP.lenT rfl Try.underlying9) ?_
  refine TO.n (N.callF (part_ok p bs.length at_ s.length b v hbs ha h) Try.call41 ⟨rfl, rfl, rfl, trivial⟩ (by (repeat first | exact Pick.nil _ | (apply Pick.cons; focus ((repeat first | exact Del.head _ _ | apply Del.tail); done))))) ?_
  rintro u14 _ ⟨_, ⟨rfl, rfl⟩, rfl⟩
  try simp only [List.cons_append, List.nil_append]
  refine TO.p (DP.mv (by conv => lhs; whnf)) ?_
  refine TO.p (DP.ex rfl rfl) ?_
  refine TO.p (DP.ex rfl rfl) ?_
  refine TO.p (DP.as (by conv => lhs; whnf)) ?_
  refine TO.p (DP.as (by conv => lhs; whnf)) ?_
  refine TO.nil ?_
  refine TQ.nn ?_
  refine T.seq ?_
  refine T.block ?_
  refine T.seq ?_
  refine T.reg ?_
  refine TO.p (DP.mv (by conv => lhs; whnf)) ?_
  refine TO.p (DP.neq (a := 0) (b := 0) rfl rfl) ?_
  refine TO.p (DP.as (by conv => lhs; whnf)) ?_
  refine TO.nil ?_
  refine TQ.nn ?_
  refine T.condD rfl (fun hc0 => ?_) (fun hc0 => ?_)
  · exact absurd rfl hc0
  · refine T.seq ?_
    refine T.reg ?_
    refine TO.p (DP.mv (by conv => lhs; whnf)) ?_
    refine TO.p (DP.mv (by conv => lhs; whnf)) ?_
    refine TO.p (DP.mv (by conv => lhs; whnf)) ?_
    refine TO.p (DP.lenT rfl Try.underlying9) ?_
    refine TO.p (DP.cv rfl is3 Try.underlying30 (l := 4294967296) rfl (by omega)) ?_
    refine TO.p (DP.bdL (vs := [(0, _), (1, _)]) (us := [_, _]) ⟨rfl, (by conv => lhs; whnf), rfl, (by conv => lhs; whnf), trivial⟩ pc110 zr110 rfl) ?_
    refine TO.n (N.callF (shared_spec p at_ s.length _ v ss hlen hb ha (by omega)) Try.call47 ⟨rfl, rfl, trivial⟩ (by (repeat first | exact Pick.nil _ | (apply Pick.cons; focus ((repeat first | exact Del.head _ _ | apply Del.tail); done))))) ?_
    rintro u28 _ ⟨_, ⟨rfl, rfl⟩, rfl⟩
    try simp only [List.cons_append, List.nil_append]
    refine TO.p (DP.gtr (b := 0) rfl rfl) ?_
    refine TO.p (DP.as (by conv => lhs; whnf)) ?_
    refine TO.nil ?_
    refine TQ.nn ?_
    refine T.condD rfl (fun hc1 => ?_) (fun hc1 => ?_)
    · exact absurd hs (by omega)
    · refine T.skip ?_
      refine TQ.bn ?_
      refine TQ.nn ?_
      refine T.seq ?_
      refine T.reg ?_
      refine TO.p (DP.mv (by conv => lhs; whnf)) ?_
      refine TO.p (DP.mv (by conv => lhs; whnf)) ?_
      have hcp := copy_part h
      refine TO.n (N.cp rfl rfl Try.underlying59 sz5 (Src.str Try.underlying9 rfl) (one_bytes s) (by (repeat first | exact Put.head _ _ _ | apply Put.tail)) (by rw [List.length_map]; simp; split <;> omega)) ?_
      rintro _ _ ⟨rfl, rfl⟩
      refine TO.nil ?_
      refine TQ.nn ?_
      refine T.seq ?_
      rw [hcp]
      refine T.reg ?_
      refine TO.p (DP.as (by conv => lhs; whnf)) ?_
      refine TO.nil ?_
      refine TQ.nn ?_
      refine T.ret ?_
      refine TQ.ret (vs := [.int .i64 0]) (L' := [_, _, _]) rfl ⟨rfl, rfl⟩ ⟨rfl, rfl⟩ (by (refine Ent.imp ?_; repeat first | exact Imp.refl _ | exact Imp.nil _ | (apply Imp.pull; focus ((repeat first | exact Del.head _ _ | apply Del.tail); done)) | (apply Imp.row; focus ((repeat first | exact Del.head _ _ | apply Del.tail); done)) | apply Imp.drop))

theorem write_nil (at_ : Nat) (s : List UInt8) :
    Sat Try.prog 31 [.pointer none, .int .u32 at_, str s] [] (fun u L' => u = .int .i64 1 ∧ L' = []) := by
  refine Sat.enter Try.func31 rfl Try.ntmps31 rfl (fun c R => ?_)
  try simp only [List.cons_append, List.nil_append]
  refine T.seq ?_
  refine T.reg ?_
  refine TO.p (DP.as (by conv => lhs; whnf)) ?_
  refine TO.nil ?_
  refine TQ.nn ?_
  refine T.seq ?_
  refine T.reg ?_
  refine TO.p (DP.mv (by conv => lhs; whnf)) ?_
  refine TO.p (DP.mv (by conv => lhs; whnf)) ?_
  refine TO.p (DP.mv (by conv => lhs; whnf)) ?_
  refine TO.p (DP.lenT rfl Try.underlying9) ?_
  refine TO.n (N.callF (part_nil at_ s.length) Try.call41 ⟨rfl, rfl, rfl, trivial⟩ (by (repeat first | exact Pick.nil _ | (apply Pick.cons; focus ((repeat first | exact Del.head _ _ | apply Del.tail); done))))) ?_
  rintro u14 _ ⟨_, ⟨rfl, rfl⟩, rfl⟩
  try simp only [List.cons_append, List.nil_append]
  refine TO.p (DP.mv (by conv => lhs; whnf)) ?_
  refine TO.p (DP.ex rfl rfl) ?_
  refine TO.p (DP.ex rfl rfl) ?_
  refine TO.p (DP.as (by conv => lhs; whnf)) ?_
  refine TO.p (DP.as (by conv => lhs; whnf)) ?_
  refine TO.nil ?_
  refine TQ.nn ?_
  refine T.seq ?_
  refine T.block ?_
  refine T.seq ?_
  refine T.reg ?_
  refine TO.p (DP.mv (by conv => lhs; whnf)) ?_
  refine TO.p (DP.neq (a := 1) (b := 0) rfl rfl) ?_
  refine TO.p (DP.as (by conv => lhs; whnf)) ?_
  refine TO.nil ?_
  refine TQ.nn ?_
  refine T.condD rfl (fun hc0 => ?_) (fun hc0 => ?_)
  · refine T.seq ?_
    refine T.reg ?_
    refine TO.p (DP.mv (by conv => lhs; whnf)) ?_
    refine TO.p (DP.as (by conv => lhs; whnf)) ?_
    refine TO.nil ?_
    refine TQ.nn ?_
    refine T.ret ?_
    refine TQ.br ?_
    refine TQ.nr ?_
    refine TQ.ret (vs := [.int .i64 1]) (L' := []) rfl ⟨rfl, rfl⟩ ⟨rfl, rfl⟩ (by (refine Ent.imp ?_; repeat first | exact Imp.refl _ | exact Imp.nil _ | (apply Imp.pull; focus ((repeat first | exact Del.head _ _ | apply Del.tail); done)) | (apply Imp.row; focus ((repeat first | exact Del.head _ _ | apply Del.tail); done)) | apply Imp.drop))
  · exact absurd (by decide) hc0

theorem device_out (p b at_ : Nat) (v : Value) (bs : List UInt8) (ss : List Spn) (s : List UInt8) (hbs : bs.length ≤ 1048576) (hlen : ss.length ≤ 1048576) (hb : ∀ s ∈ ss, s.1 + s.2 ≤ 1048576) (ha : at_ < 4294967296) (hm : s.length < 9223372036854775808) (h : bs.length < at_ + s.length) :
    Sat Try.prog 35 [.pointer (some ⟨p, 0, none⟩), .int .u32 at_, str s] [row 70 p [.slice (some ⟨b, 0, none⟩) bs.length bs.length, v], row 5 b (bs.map byteV), sl 110 2 v ss.length (spans ss)] (fun u L' => u = .int .i64 10 ∧ L' = [row 70 p [.slice (some ⟨b, 0, none⟩) bs.length bs.length, v], row 5 b (bs.map byteV), sl 110 2 v ss.length (spans ss)]) := by
  refine Sat.enter Try.func35 rfl Try.ntmps35 rfl (fun c R => ?_)
  try simp only [List.cons_append, List.nil_append]
  refine T.seq ?_
  refine T.reg ?_
  refine TO.p (DP.as (by conv => lhs; whnf)) ?_
  refine TO.nil ?_
  refine TQ.nn ?_
  refine T.seq ?_
  refine T.reg ?_
  refine TO.p (DP.mv (by conv => lhs; whnf)) ?_
  refine TO.p (DP.mv (by conv => lhs; whnf)) ?_
  refine TO.p (DP.mv (by conv => lhs; whnf)) ?_
  refine TO.p (DP.lenT rfl Try.underlying9) ?_
  refine TO.n (N.callF (part_out p bs.length at_ s.length b v hbs ha hm h) Try.call41 ⟨rfl, rfl, rfl, trivial⟩ (by (repeat first | exact Pick.nil _ | (apply Pick.cons; focus ((repeat first | exact Del.head _ _ | apply Del.tail); done))))) ?_
  rintro u14 _ ⟨_, ⟨rfl, rfl⟩, rfl⟩
  try simp only [List.cons_append, List.nil_append]
  refine TO.p (DP.mv (by conv => lhs; whnf)) ?_
  refine TO.p (DP.ex rfl rfl) ?_
  refine TO.p (DP.ex rfl rfl) ?_
  refine TO.p (DP.as (by conv => lhs; whnf)) ?_
  refine TO.p (DP.as (by conv => lhs; whnf)) ?_
  refine TO.nil ?_
  refine TQ.nn ?_
  refine T.seq ?_
  refine T.block ?_
  refine T.seq ?_
  refine T.reg ?_
  refine TO.p (DP.mv (by conv => lhs; whnf)) ?_
  refine TO.p (DP.neq (a := 10) (b := 0) rfl rfl) ?_
  refine TO.p (DP.as (by conv => lhs; whnf)) ?_
  refine TO.nil ?_
  refine TQ.nn ?_
  refine T.condD rfl (fun hc0 => ?_) (fun hc0 => ?_)
  · refine T.seq ?_
    refine T.reg ?_
    refine TO.p (DP.mv (by conv => lhs; whnf)) ?_
    refine TO.p (DP.as (by conv => lhs; whnf)) ?_
    refine TO.nil ?_
    refine TQ.nn ?_
    refine T.ret ?_
    refine TQ.br ?_
    refine TQ.nr ?_
    refine TQ.ret (vs := [.int .i64 10]) (L' := [_, _, _]) rfl ⟨rfl, rfl⟩ ⟨rfl, rfl⟩ (by (refine Ent.imp ?_; repeat first | exact Imp.refl _ | exact Imp.nil _ | (apply Imp.pull; focus ((repeat first | exact Del.head _ _ | apply Del.tail); done)) | (apply Imp.row; focus ((repeat first | exact Del.head _ _ | apply Del.tail); done)) | apply Imp.drop))
  · exact absurd (by decide) hc0

theorem device_bad (p b at_ : Nat) (v : Value) (bs : List UInt8) (ss : List Spn) (s : List UInt8) (hbs : bs.length ≤ 1048576) (hlen : ss.length ≤ 1048576) (hb : ∀ s ∈ ss, s.1 + s.2 ≤ 1048576) (ha : at_ < 4294967296) (h : at_ + s.length ≤ bs.length) (hs : sharedN ss at_ s.length < s.length) :
    Sat Try.prog 35 [.pointer (some ⟨p, 0, none⟩), .int .u32 at_, str s] [row 70 p [.slice (some ⟨b, 0, none⟩) bs.length bs.length, v], row 5 b (bs.map byteV), sl 110 2 v ss.length (spans ss)] (fun u L' => u = .int .i64 12 ∧ L' = [row 70 p [.slice (some ⟨b, 0, none⟩) bs.length bs.length, v], row 5 b (bs.map byteV), sl 110 2 v ss.length (spans ss)]) := by
  refine Sat.enter Try.func35 rfl Try.ntmps35 rfl (fun c R => ?_)
  try simp only [List.cons_append, List.nil_append]
  refine T.seq ?_
  refine T.reg ?_
  refine TO.p (DP.as (by conv => lhs; whnf)) ?_
  refine TO.nil ?_
  refine TQ.nn ?_
  refine T.seq ?_
  refine T.reg ?_
  refine TO.p (DP.mv (by conv => lhs; whnf)) ?_
  refine TO.p (DP.mv (by conv => lhs; whnf)) ?_
  refine TO.p (DP.mv (by conv => lhs; whnf)) ?_
  refine TO.p (DP.lenT rfl Try.underlying9) ?_
  refine TO.n (N.callF (part_ok p bs.length at_ s.length b v hbs ha h) Try.call41 ⟨rfl, rfl, rfl, trivial⟩ (by (repeat first | exact Pick.nil _ | (apply Pick.cons; focus ((repeat first | exact Del.head _ _ | apply Del.tail); done))))) ?_
  rintro u14 _ ⟨_, ⟨rfl, rfl⟩, rfl⟩
  try simp only [List.cons_append, List.nil_append]
  refine TO.p (DP.mv (by conv => lhs; whnf)) ?_
  refine TO.p (DP.ex rfl rfl) ?_
  refine TO.p (DP.ex rfl rfl) ?_
  refine TO.p (DP.as (by conv => lhs; whnf)) ?_
  refine TO.p (DP.as (by conv => lhs; whnf)) ?_
  refine TO.nil ?_
  refine TQ.nn ?_
  refine T.seq ?_
  refine T.block ?_
  refine T.seq ?_
  refine T.reg ?_
  refine TO.p (DP.mv (by conv => lhs; whnf)) ?_
  refine TO.p (DP.neq (a := 0) (b := 0) rfl rfl) ?_
  refine TO.p (DP.as (by conv => lhs; whnf)) ?_
  refine TO.nil ?_
  refine TQ.nn ?_
  refine T.condD rfl (fun hc0 => ?_) (fun hc0 => ?_)
  · exact absurd rfl hc0
  · refine T.seq ?_
    refine T.reg ?_
    refine TO.p (DP.mv (by conv => lhs; whnf)) ?_
    refine TO.p (DP.mv (by conv => lhs; whnf)) ?_
    refine TO.p (DP.mv (by conv => lhs; whnf)) ?_
    refine TO.p (DP.lenT rfl Try.underlying9) ?_
    refine TO.p (DP.cv rfl is3 Try.underlying30 (l := 4294967296) rfl (by omega)) ?_
    refine TO.p (DP.bdL (vs := [(0, _), (1, _)]) (us := [_, _]) ⟨rfl, (by conv => lhs; whnf), rfl, (by conv => lhs; whnf), trivial⟩ pc110 zr110 rfl) ?_
    refine TO.n (N.callF (shared_spec p at_ s.length _ v ss hlen hb ha (by omega)) Try.call47 ⟨rfl, rfl, trivial⟩ (by (repeat first | exact Pick.nil _ | (apply Pick.cons; focus ((repeat first | exact Del.head _ _ | apply Del.tail); done))))) ?_
    rintro u28 _ ⟨_, ⟨rfl, rfl⟩, rfl⟩
    try simp only [List.cons_append, List.nil_append]
    refine TO.p (DP.mv (by conv => lhs; whnf)) ?_
    refine TO.p (DP.lenT rfl Try.underlying9) ?_
    refine TO.p (DP.cv rfl is3 Try.underlying63 (l := 18446744073709551616) rfl (by omega)) ?_
    refine TO.p (DP.lss rfl rfl) ?_
    refine TO.p (DP.as (by conv => lhs; whnf)) ?_
    refine TO.nil ?_
    refine TQ.nn ?_
    refine T.condD rfl (fun hc1 => ?_) (fun hc1 => ?_)
    · refine T.seq ?_
      refine T.reg ?_
      refine TO.p (DP.as (by conv => lhs; whnf)) ?_
      refine TO.nil ?_
      refine TQ.nn ?_
      refine T.ret ?_
      refine TQ.br ?_
      refine TQ.nr ?_
      refine TQ.ret (vs := [.int .i64 12]) (L' := [_, _, _]) rfl ⟨rfl, rfl⟩ ⟨rfl, rfl⟩ (by (refine Ent.imp ?_; repeat first | exact Imp.refl _ | exact Imp.nil _ | (apply Imp.pull; focus ((repeat first | exact Del.head _ _ | apply Del.tail); done)) | (apply Imp.row; focus ((repeat first | exact Del.head _ _ | apply Del.tail); done)) | apply Imp.drop))
    · exact absurd hs (by omega)

theorem device_ok (p b at_ : Nat) (v : Value) (bs : List UInt8) (ss : List Spn) (s : List UInt8) (hbs : bs.length ≤ 1048576) (hlen : ss.length ≤ 1048576) (hb : ∀ s ∈ ss, s.1 + s.2 ≤ 1048576) (ha : at_ < 4294967296) (h : at_ + s.length ≤ bs.length) (hs : s.length ≤ sharedN ss at_ s.length) :
    Sat Try.prog 35 [.pointer (some ⟨p, 0, none⟩), .int .u32 at_, str s] [row 70 p [.slice (some ⟨b, 0, none⟩) bs.length bs.length, v], row 5 b (bs.map byteV), sl 110 2 v ss.length (spans ss)] (fun u L' => u = .int .i64 0 ∧ L' = [row 70 p [.slice (some ⟨b, 0, none⟩) bs.length bs.length, v], row 5 b ((putB bs at_ s).map byteV), sl 110 2 v ss.length (spans ss)]) := by
  refine Sat.enter Try.func35 rfl Try.ntmps35 rfl (fun c R => ?_)
  try simp only [List.cons_append, List.nil_append]
  refine T.seq ?_
  refine T.reg ?_
  refine TO.p (DP.as (by conv => lhs; whnf)) ?_
  refine TO.nil ?_
  refine TQ.nn ?_
  refine T.seq ?_
  refine T.reg ?_
  refine TO.p (DP.mv (by conv => lhs; whnf)) ?_
  refine TO.p (DP.mv (by conv => lhs; whnf)) ?_
  refine TO.p (DP.mv (by conv => lhs; whnf)) ?_
  refine TO.p (DP.lenT rfl Try.underlying9) ?_
  refine TO.n (N.callF (part_ok p bs.length at_ s.length b v hbs ha h) Try.call41 ⟨rfl, rfl, rfl, trivial⟩ (by (repeat first | exact Pick.nil _ | (apply Pick.cons; focus ((repeat first | exact Del.head _ _ | apply Del.tail); done))))) ?_
  rintro u14 _ ⟨_, ⟨rfl, rfl⟩, rfl⟩
  try simp only [List.cons_append, List.nil_append]
  refine TO.p (DP.mv (by conv => lhs; whnf)) ?_
  refine TO.p (DP.ex rfl rfl) ?_
  refine TO.p (DP.ex rfl rfl) ?_
  refine TO.p (DP.as (by conv => lhs; whnf)) ?_
  refine TO.p (DP.as (by conv => lhs; whnf)) ?_
  refine TO.nil ?_
  refine TQ.nn ?_
  refine T.seq ?_
  refine T.block ?_
  refine T.seq ?_
  refine T.reg ?_
  refine TO.p (DP.mv (by conv => lhs; whnf)) ?_
  refine TO.p (DP.neq (a := 0) (b := 0) rfl rfl) ?_
  refine TO.p (DP.as (by conv => lhs; whnf)) ?_
  refine TO.nil ?_
  refine TQ.nn ?_
  refine T.condD rfl (fun hc0 => ?_) (fun hc0 => ?_)
  · exact absurd rfl hc0
  · refine T.seq ?_
    refine T.reg ?_
    refine TO.p (DP.mv (by conv => lhs; whnf)) ?_
    refine TO.p (DP.mv (by conv => lhs; whnf)) ?_
    refine TO.p (DP.mv (by conv => lhs; whnf)) ?_
    refine TO.p (DP.lenT rfl Try.underlying9) ?_
    refine TO.p (DP.cv rfl is3 Try.underlying30 (l := 4294967296) rfl (by omega)) ?_
    refine TO.p (DP.bdL (vs := [(0, _), (1, _)]) (us := [_, _]) ⟨rfl, (by conv => lhs; whnf), rfl, (by conv => lhs; whnf), trivial⟩ pc110 zr110 rfl) ?_
    refine TO.n (N.callF (shared_spec p at_ s.length _ v ss hlen hb ha (by omega)) Try.call47 ⟨rfl, rfl, trivial⟩ (by (repeat first | exact Pick.nil _ | (apply Pick.cons; focus ((repeat first | exact Del.head _ _ | apply Del.tail); done))))) ?_
    rintro u28 _ ⟨_, ⟨rfl, rfl⟩, rfl⟩
    try simp only [List.cons_append, List.nil_append]
    refine TO.p (DP.mv (by conv => lhs; whnf)) ?_
    refine TO.p (DP.lenT rfl Try.underlying9) ?_
    refine TO.p (DP.cv rfl is3 Try.underlying63 (l := 18446744073709551616) rfl (by omega)) ?_
    refine TO.p (DP.lss rfl rfl) ?_
    refine TO.p (DP.as (by conv => lhs; whnf)) ?_
    refine TO.nil ?_
    refine TQ.nn ?_
    refine T.condD rfl (fun hc1 => ?_) (fun hc1 => ?_)
    · exact absurd hs (by omega)
    · refine T.skip ?_
      refine TQ.bn ?_
      refine TQ.nn ?_
      refine T.seq ?_
      refine T.reg ?_
      refine TO.p (DP.mv (by conv => lhs; whnf)) ?_
      refine TO.p (DP.mv (by conv => lhs; whnf)) ?_
      have hcp := copy_part h
      refine TO.n (N.cp rfl rfl Try.underlying59 sz5 (Src.str Try.underlying9 rfl) (one_bytes s) (by (repeat first | exact Put.head _ _ _ | apply Put.tail)) (by rw [List.length_map]; simp; split <;> omega)) ?_
      rintro _ _ ⟨rfl, rfl⟩
      refine TO.nil ?_
      refine TQ.nn ?_
      refine T.seq ?_
      rw [hcp]
      refine T.reg ?_
      refine TO.p (DP.as (by conv => lhs; whnf)) ?_
      refine TO.nil ?_
      refine TQ.nn ?_
      refine T.ret ?_
      refine TQ.ret (vs := [.int .i64 0]) (L' := [_, _, _]) rfl ⟨rfl, rfl⟩ ⟨rfl, rfl⟩ (by (refine Ent.imp ?_; repeat first | exact Imp.refl _ | exact Imp.nil _ | (apply Imp.pull; focus ((repeat first | exact Del.head _ _ | apply Del.tail); done)) | (apply Imp.row; focus ((repeat first | exact Del.head _ _ | apply Del.tail); done)) | apply Imp.drop))

theorem device_nil (at_ : Nat) (s : List UInt8) :
    Sat Try.prog 35 [.pointer none, .int .u32 at_, str s] [] (fun u L' => u = .int .i64 1 ∧ L' = []) := by
  refine Sat.enter Try.func35 rfl Try.ntmps35 rfl (fun c R => ?_)
  try simp only [List.cons_append, List.nil_append]
  refine T.seq ?_
  refine T.reg ?_
  refine TO.p (DP.as (by conv => lhs; whnf)) ?_
  refine TO.nil ?_
  refine TQ.nn ?_
  refine T.seq ?_
  refine T.reg ?_
  refine TO.p (DP.mv (by conv => lhs; whnf)) ?_
  refine TO.p (DP.mv (by conv => lhs; whnf)) ?_
  refine TO.p (DP.mv (by conv => lhs; whnf)) ?_
  refine TO.p (DP.lenT rfl Try.underlying9) ?_
  refine TO.n (N.callF (part_nil at_ s.length) Try.call41 ⟨rfl, rfl, rfl, trivial⟩ (by (repeat first | exact Pick.nil _ | (apply Pick.cons; focus ((repeat first | exact Del.head _ _ | apply Del.tail); done))))) ?_
  rintro u14 _ ⟨_, ⟨rfl, rfl⟩, rfl⟩
  try simp only [List.cons_append, List.nil_append]
  refine TO.p (DP.mv (by conv => lhs; whnf)) ?_
  refine TO.p (DP.ex rfl rfl) ?_
  refine TO.p (DP.ex rfl rfl) ?_
  refine TO.p (DP.as (by conv => lhs; whnf)) ?_
  refine TO.p (DP.as (by conv => lhs; whnf)) ?_
  refine TO.nil ?_
  refine TQ.nn ?_
  refine T.seq ?_
  refine T.block ?_
  refine T.seq ?_
  refine T.reg ?_
  refine TO.p (DP.mv (by conv => lhs; whnf)) ?_
  refine TO.p (DP.neq (a := 1) (b := 0) rfl rfl) ?_
  refine TO.p (DP.as (by conv => lhs; whnf)) ?_
  refine TO.nil ?_
  refine TQ.nn ?_
  refine T.condD rfl (fun hc0 => ?_) (fun hc0 => ?_)
  · refine T.seq ?_
    refine T.reg ?_
    refine TO.p (DP.mv (by conv => lhs; whnf)) ?_
    refine TO.p (DP.as (by conv => lhs; whnf)) ?_
    refine TO.nil ?_
    refine TQ.nn ?_
    refine T.ret ?_
    refine TQ.br ?_
    refine TQ.nr ?_
    refine TQ.ret (vs := [.int .i64 1]) (L' := []) rfl ⟨rfl, rfl⟩ ⟨rfl, rfl⟩ (by (refine Ent.imp ?_; repeat first | exact Imp.refl _ | exact Imp.nil _ | (apply Imp.pull; focus ((repeat first | exact Del.head _ _ | apply Del.tail); done)) | (apply Imp.row; focus ((repeat first | exact Del.head _ _ | apply Del.tail); done)) | apply Imp.drop))
  · exact absurd (by decide) hc0

theorem part_pos (p n at_ m b : Nat) (v : Value) (hn : n ≤ 1048576) (ha : at_ < 4294967296) (h : at_ + m ≤ n) (h0 : 0 < m) :
    Sat Try.prog 41 [.pointer (some ⟨p, 0, none⟩), .int .u32 at_, .int .i64 m] [row 70 p [.slice (some ⟨b, 0, none⟩) n n, v]] (fun u L' => u = .tuple #[.slice (some ⟨b, at_, none⟩) m m, .int .i64 0] ∧ L' = [row 70 p [.slice (some ⟨b, 0, none⟩) n n, v]]) := by
  have := part_ok p n at_ m b v hn ha h
  rwa [if_neg (by omega)] at this

theorem number16_ok (p b at_ : Nat) (v : Value) (bs : List UInt8) (ss : List Spn) (n : Nat) (hbs : bs.length ≤ 1048576) (hlen : ss.length ≤ 1048576) (hb : ∀ s ∈ ss, s.1 + s.2 ≤ 1048576) (ha : at_ < 4294967296) (h : at_ + n ≤ bs.length) (h0 : 0 < n) (hw : 8 * n ≤ 16) :
    Sat Try.prog 28 [.pointer (some ⟨p, 0, none⟩), .int .u32 at_, .int .i64 n] [row 70 p [.slice (some ⟨b, 0, none⟩) bs.length bs.length, v], row 5 b (bs.map byteV), sl 110 2 v ss.length (spans ss)] (fun u L' => u = .tuple #[.int .u16 (leN ((bs.drop at_).take n) : Nat), .int .i64 0] ∧ L' = [row 70 p [.slice (some ⟨b, 0, none⟩) bs.length bs.length, v], row 5 b (bs.map byteV), sl 110 2 v ss.length (spans ss)]) := by
  refine Sat.enter Try.func28 rfl Try.ntmps28 rfl (fun c R => ?_)
  try simp only [List.cons_append, List.nil_append]
  refine T.seq ?_
  refine T.reg ?_
  refine TO.p (DP.as (by conv => lhs; whnf)) ?_
  refine TO.p (DP.as (by conv => lhs; whnf)) ?_
  refine TO.nil ?_
  refine TQ.nn ?_
  refine T.seq ?_
  refine T.reg ?_
  refine TO.p (DP.mv (by conv => lhs; whnf)) ?_
  refine TO.p (DP.mv (by conv => lhs; whnf)) ?_
  refine TO.p (DP.mv (by conv => lhs; whnf)) ?_
  refine TO.n (N.callF (part_pos p bs.length at_ n b v hbs ha h h0) Try.call41 ⟨rfl, rfl, rfl, trivial⟩ (by (repeat first | exact Pick.nil _ | (apply Pick.cons; focus ((repeat first | exact Del.head _ _ | apply Del.tail); done))))) ?_
  rintro u17 _ ⟨_, ⟨rfl, rfl⟩, rfl⟩
  try simp only [List.cons_append, List.nil_append]
  refine TO.p (DP.mv (by conv => lhs; whnf)) ?_
  refine TO.p (DP.ex rfl rfl) ?_
  refine TO.p (DP.ex rfl rfl) ?_
  refine TO.p (DP.as (by conv => lhs; whnf)) ?_
  refine TO.p (DP.as (by conv => lhs; whnf)) ?_
  refine TO.nil ?_
  refine TQ.nn ?_
  refine T.seq ?_
  refine T.reg ?_
  refine TO.p (DP.as (by conv => lhs; whnf)) ?_
  refine TO.nil ?_
  refine TQ.nn ?_
  refine T.seq ?_
  refine T.seq ?_
  refine T.reg ?_
  refine TO.p (DP.mv (by conv => lhs; whnf)) ?_
  refine TO.p (DP.lenS rfl Try.underlying59) ?_
  refine TO.p (DP.mv (by conv => lhs; whnf)) ?_
  refine TO.nil ?_
  refine TQ.nn ?_
  refine T.block ?_
  refine T.loop (S := Nat) 0 (fun i => [(9, .int .i64 (0 : Nat)), (10, .int .u16 (leN (((bs.drop at_).take n).take i) : Nat)), (20, .slice (some ⟨b, at_, none⟩) n n), (21, .int .i64 (n : Nat)), (22, .int .i64 (i : Nat))]) (fun i => row 70 p [.slice (some ⟨b, 0, none⟩) bs.length bs.length, v] :: row 5 b (bs.map byteV) :: sl 110 2 v ss.length (spans ss) :: R) (fun i => i ≤ n) (fun i => n - i) ?_ ?_ ?_ ?_
  · (repeat first | exact trivial | refine ⟨rfl, ?_⟩)
  · (first | trivial | omega | simp)
  · exact Ent.refl _ _
  rintro i g hI
  refine T.seq ?_
  refine T.reg ?_
  refine TO.p (DP.lss rfl rfl) ?_
  refine TO.nil ?_
  refine TQ.nn ?_
  refine T.seq ?_
  refine T.condD rfl (fun hc0 => ?_) (fun hc0 => ?_)
  · have hln := len_part h
    obtain ⟨x, hx⟩ := get_some (l := (bs.drop at_).take n) (i := i) (by omega)
    have hnx := leN_succ (w := 16) hx (by omega)
    have hlt := leN_lt (((bs.drop at_).take n).take i)
    have hll : (((bs.drop at_).take n).take i).length = i := by rw [List.length_take, hln]; omega
    rw [hll] at hlt
    have hpw : (256 : Nat) ^ i ≤ 2 ^ 16 := by rw [show (256 : Nat) = 2 ^ 8 from rfl, ← Nat.pow_mul]; exact Nat.pow_le_pow_right (by omega) (by omega)
    have hrx : (bs.map byteV)[at_ + i * (0 + 1)]? = some (byteV x) := by rw [List.getElem?_map]; rw [List.getElem?_take, List.getElem?_drop] at hx; rw [if_pos (by omega)] at hx; simp [hx]
    have hxl := x.toNat_lt
    refine T.skip ?_
    refine TQ.nn ?_
    refine T.seq ?_
    refine T.block ?_
    refine T.seq ?_
    refine T.reg ?_
    refine TO.p (DP.mv (by conv => lhs; whnf)) ?_
    refine TO.p (DP.ias rfl rfl Try.underlying59 sz5 (by omega)) ?_
    refine TO.d (D.ldR (v := byteV x) rfl pl5 (by (repeat first | exact LMem.head _ _ | apply LMem.tail)) hrx) ?_
    refine TO.p (DP.as (by conv => lhs; whnf)) ?_
    refine TO.p (DP.as (by conv => lhs; whnf)) ?_
    refine TO.nil ?_
    refine TQ.nn ?_
    refine T.reg ?_
    refine TO.p (DP.mv (by conv => lhs; whnf)) ?_
    refine TO.p (DP.mv (by conv => lhs; whnf)) ?_
    refine TO.p (DP.cv (a := x.toNat) rfl is5 Try.underlying39 (l := 65536) rfl (by omega)) ?_
    refine TO.p (DP.mv (by conv => lhs; whnf)) ?_
    refine TO.p (DP.mul (a := 8) rfl rfl (l := 9223372036854775808) rfl (by omega)) ?_
    refine TO.p (DP.shl (b := 8 * i) rfl rfl rfl (l := 2 ^ 16) rfl) ?_
    refine TO.p (DP.bor rfl rfl (l := 2 ^ 16) rfl (by omega) (Nat.mod_lt _ (by decide))) ?_
    refine TO.p (DP.as (by conv => lhs; whnf)) ?_
    refine TO.nil ?_
    refine TQ.bn ?_
    refine TQ.nn ?_
    refine T.reg ?_
    refine TO.p (DP.add (b := 1) rfl rfl (l := 9223372036854775808) rfl (by omega)) ?_
    refine TO.p (DP.mv (by conv => lhs; whnf)) ?_
    refine TO.nil ?_
    refine TQ.round (i + 1) rfl ?_ ?_ ?_ ?_
    · (repeat first | exact trivial | refine ⟨rfl, ?_⟩ | refine ⟨by rw [hnx] <;> rfl, ?_⟩)
    · omega
    · omega
    · exact Ent.refl _ _
  · obtain rfl : n = i := by omega
    refine T.exit ?_
    refine TQ.ne ?_
    refine TQ.le ?_
    refine TQ.be ?_
    refine TQ.nn ?_
    refine T.seq ?_
    refine T.reg ?_
    refine TO.p (DP.mv (by conv => lhs; whnf)) ?_
    refine TO.p (DP.mv (by conv => lhs; whnf)) ?_
    refine TO.p (DP.as (by conv => lhs; whnf)) ?_
    refine TO.p (DP.as (by conv => lhs; whnf)) ?_
    refine TO.nil ?_
    refine TQ.nn ?_
    refine T.ret ?_
    refine TQ.ret (vs := [.int .u16 (leN ((bs.drop at_).take n) : Nat), .int .i64 0]) (L' := [_, _, _]) rfl ⟨by rw [List.take_take, Nat.min_self]; rfl, rfl, rfl⟩ ⟨rfl, rfl⟩ (by (refine Ent.imp ?_; repeat first | exact Imp.refl _ | exact Imp.nil _ | (apply Imp.pull; focus ((repeat first | exact Del.head _ _ | apply Del.tail); done)) | (apply Imp.row; focus ((repeat first | exact Del.head _ _ | apply Del.tail); done)) | apply Imp.drop))

theorem number16_out (p b at_ : Nat) (v : Value) (bs : List UInt8) (ss : List Spn) (n : Nat) (hbs : bs.length ≤ 1048576) (hlen : ss.length ≤ 1048576) (hb : ∀ s ∈ ss, s.1 + s.2 ≤ 1048576) (ha : at_ < 4294967296) (hm : n < 9223372036854775808) (h : bs.length < at_ + n) :
    Sat Try.prog 28 [.pointer (some ⟨p, 0, none⟩), .int .u32 at_, .int .i64 n] [row 70 p [.slice (some ⟨b, 0, none⟩) bs.length bs.length, v], row 5 b (bs.map byteV), sl 110 2 v ss.length (spans ss)] (fun u L' => u = .tuple #[.int .u16 (0 : Nat), .int .i64 10] ∧ L' = [row 70 p [.slice (some ⟨b, 0, none⟩) bs.length bs.length, v], row 5 b (bs.map byteV), sl 110 2 v ss.length (spans ss)]) := by
  refine Sat.enter Try.func28 rfl Try.ntmps28 rfl (fun c R => ?_)
  try simp only [List.cons_append, List.nil_append]
  refine T.seq ?_
  refine T.reg ?_
  refine TO.p (DP.as (by conv => lhs; whnf)) ?_
  refine TO.p (DP.as (by conv => lhs; whnf)) ?_
  refine TO.nil ?_
  refine TQ.nn ?_
  refine T.seq ?_
  refine T.reg ?_
  refine TO.p (DP.mv (by conv => lhs; whnf)) ?_
  refine TO.p (DP.mv (by conv => lhs; whnf)) ?_
  refine TO.p (DP.mv (by conv => lhs; whnf)) ?_
  refine TO.n (N.callF (part_out p bs.length at_ n b v hbs ha hm h) Try.call41 ⟨rfl, rfl, rfl, trivial⟩ (by (repeat first | exact Pick.nil _ | (apply Pick.cons; focus ((repeat first | exact Del.head _ _ | apply Del.tail); done))))) ?_
  rintro u17 _ ⟨_, ⟨rfl, rfl⟩, rfl⟩
  try simp only [List.cons_append, List.nil_append]
  refine TO.p (DP.mv (by conv => lhs; whnf)) ?_
  refine TO.p (DP.ex rfl rfl) ?_
  refine TO.p (DP.ex rfl rfl) ?_
  refine TO.p (DP.as (by conv => lhs; whnf)) ?_
  refine TO.p (DP.as (by conv => lhs; whnf)) ?_
  refine TO.nil ?_
  refine TQ.nn ?_
  refine T.seq ?_
  refine T.reg ?_
  refine TO.p (DP.as (by conv => lhs; whnf)) ?_
  refine TO.nil ?_
  refine TQ.nn ?_
  refine T.seq ?_
  refine T.seq ?_
  refine T.reg ?_
  refine TO.p (DP.mv (by conv => lhs; whnf)) ?_
  refine TO.p (DP.lenS rfl Try.underlying59) ?_
  refine TO.p (DP.mv (by conv => lhs; whnf)) ?_
  refine TO.nil ?_
  refine TQ.nn ?_
  refine T.block ?_
  refine T.loop (S := Unit) () (fun _ => [(9, .int .i64 10), (10, .int .u16 (0 : Nat)), (21, .int .i64 (0 : Nat)), (22, .int .i64 (0 : Nat))]) (fun _ => row 70 p [.slice (some ⟨b, 0, none⟩) bs.length bs.length, v] :: row 5 b (bs.map byteV) :: sl 110 2 v ss.length (spans ss) :: R) (fun _ => True) (fun _ => 0) ?_ ?_ ?_ ?_
  · (repeat first | exact trivial | refine ⟨rfl, ?_⟩)
  · (first | trivial | omega | simp)
  · exact Ent.refl _ _
  rintro _ g hI
  refine T.seq ?_
  refine T.reg ?_
  refine TO.p (DP.lss (a := 0) (b := 0) rfl rfl) ?_
  refine TO.nil ?_
  refine TQ.nn ?_
  refine T.seq ?_
  refine T.condD rfl (fun hc0 => ?_) (fun hc0 => ?_)
  · exact absurd hc0 (by omega)
  · refine T.exit ?_
    refine TQ.ne ?_
    refine TQ.le ?_
    refine TQ.be ?_
    refine TQ.nn ?_
    refine T.seq ?_
    refine T.reg ?_
    refine TO.p (DP.mv (by conv => lhs; whnf)) ?_
    refine TO.p (DP.mv (by conv => lhs; whnf)) ?_
    refine TO.p (DP.as (by conv => lhs; whnf)) ?_
    refine TO.p (DP.as (by conv => lhs; whnf)) ?_
    refine TO.nil ?_
    refine TQ.nn ?_
    refine T.ret ?_
    refine TQ.ret (vs := [.int .u16 (0 : Nat), .int .i64 10]) (L' := [_, _, _]) rfl ⟨rfl, rfl, rfl⟩ ⟨rfl, rfl⟩ (by (refine Ent.imp ?_; repeat first | exact Imp.refl _ | exact Imp.nil _ | (apply Imp.pull; focus ((repeat first | exact Del.head _ _ | apply Del.tail); done)) | (apply Imp.row; focus ((repeat first | exact Del.head _ _ | apply Del.tail); done)) | apply Imp.drop))

theorem number16_nil (at_ n : Nat) :
    Sat Try.prog 28 [.pointer none, .int .u32 at_, .int .i64 n] [] (fun u L' => u = .tuple #[.int .u16 (0 : Nat), .int .i64 1] ∧ L' = []) := by
  refine Sat.enter Try.func28 rfl Try.ntmps28 rfl (fun c R => ?_)
  try simp only [List.cons_append, List.nil_append]
  refine T.seq ?_
  refine T.reg ?_
  refine TO.p (DP.as (by conv => lhs; whnf)) ?_
  refine TO.p (DP.as (by conv => lhs; whnf)) ?_
  refine TO.nil ?_
  refine TQ.nn ?_
  refine T.seq ?_
  refine T.reg ?_
  refine TO.p (DP.mv (by conv => lhs; whnf)) ?_
  refine TO.p (DP.mv (by conv => lhs; whnf)) ?_
  refine TO.p (DP.mv (by conv => lhs; whnf)) ?_
  refine TO.n (N.callF (part_nil at_ n) Try.call41 ⟨rfl, rfl, rfl, trivial⟩ (by (repeat first | exact Pick.nil _ | (apply Pick.cons; focus ((repeat first | exact Del.head _ _ | apply Del.tail); done))))) ?_
  rintro u17 _ ⟨_, ⟨rfl, rfl⟩, rfl⟩
  try simp only [List.cons_append, List.nil_append]
  refine TO.p (DP.mv (by conv => lhs; whnf)) ?_
  refine TO.p (DP.ex rfl rfl) ?_
  refine TO.p (DP.ex rfl rfl) ?_
  refine TO.p (DP.as (by conv => lhs; whnf)) ?_
  refine TO.p (DP.as (by conv => lhs; whnf)) ?_
  refine TO.nil ?_
  refine TQ.nn ?_
  refine T.seq ?_
  refine T.reg ?_
  refine TO.p (DP.as (by conv => lhs; whnf)) ?_
  refine TO.nil ?_
  refine TQ.nn ?_
  refine T.seq ?_
  refine T.seq ?_
  refine T.reg ?_
  refine TO.p (DP.mv (by conv => lhs; whnf)) ?_
  refine TO.p (DP.lenS rfl Try.underlying59) ?_
  refine TO.p (DP.mv (by conv => lhs; whnf)) ?_
  refine TO.nil ?_
  refine TQ.nn ?_
  refine T.block ?_
  refine T.loop (S := Unit) () (fun _ => [(9, .int .i64 1), (10, .int .u16 (0 : Nat)), (21, .int .i64 (0 : Nat)), (22, .int .i64 (0 : Nat))]) (fun _ => R) (fun _ => True) (fun _ => 0) ?_ ?_ ?_ ?_
  · (repeat first | exact trivial | refine ⟨rfl, ?_⟩)
  · (first | trivial | omega | simp)
  · exact Ent.refl _ _
  rintro _ g hI
  refine T.seq ?_
  refine T.reg ?_
  refine TO.p (DP.lss (a := 0) (b := 0) rfl rfl) ?_
  refine TO.nil ?_
  refine TQ.nn ?_
  refine T.seq ?_
  refine T.condD rfl (fun hc0 => ?_) (fun hc0 => ?_)
  · exact absurd hc0 (by omega)
  · refine T.exit ?_
    refine TQ.ne ?_
    refine TQ.le ?_
    refine TQ.be ?_
    refine TQ.nn ?_
    refine T.seq ?_
    refine T.reg ?_
    refine TO.p (DP.mv (by conv => lhs; whnf)) ?_
    refine TO.p (DP.mv (by conv => lhs; whnf)) ?_
    refine TO.p (DP.as (by conv => lhs; whnf)) ?_
    refine TO.p (DP.as (by conv => lhs; whnf)) ?_
    refine TO.nil ?_
    refine TQ.nn ?_
    refine T.ret ?_
    refine TQ.ret (vs := [.int .u16 (0 : Nat), .int .i64 1]) (L' := []) rfl ⟨rfl, rfl, rfl⟩ ⟨rfl, rfl⟩ (by (refine Ent.imp ?_; repeat first | exact Imp.refl _ | exact Imp.nil _ | (apply Imp.pull; focus ((repeat first | exact Del.head _ _ | apply Del.tail); done)) | (apply Imp.row; focus ((repeat first | exact Del.head _ _ | apply Del.tail); done)) | apply Imp.drop))

theorem u16_ok (p b at_ : Nat) (v : Value) (bs : List UInt8) (ss : List Spn) (hbs : bs.length ≤ 1048576) (hlen : ss.length ≤ 1048576) (hb : ∀ s ∈ ss, s.1 + s.2 ≤ 1048576) (ha : at_ < 4294967296) (h : at_ + 2 ≤ bs.length) :
    Sat Try.prog 13 [.pointer (some ⟨p, 0, none⟩), .int .u32 at_] [row 70 p [.slice (some ⟨b, 0, none⟩) bs.length bs.length, v], row 5 b (bs.map byteV), sl 110 2 v ss.length (spans ss)] (fun u L' => u = .tuple #[.int .u16 (leN ((bs.drop at_).take 2) : Nat), .int .i64 0] ∧ L' = [row 70 p [.slice (some ⟨b, 0, none⟩) bs.length bs.length, v], row 5 b (bs.map byteV), sl 110 2 v ss.length (spans ss)]) := by
  refine Sat.enter Try.func13 rfl Try.ntmps13 rfl (fun c R => ?_)
  try simp only [List.cons_append, List.nil_append]
  refine T.seq ?_
  refine T.reg ?_
  refine TO.p (DP.as (by conv => lhs; whnf)) ?_
  refine TO.p (DP.as (by conv => lhs; whnf)) ?_
  refine TO.nil ?_
  refine TQ.nn ?_
  refine T.seq ?_
  refine T.reg ?_
  refine TO.p (DP.mv (by conv => lhs; whnf)) ?_
  refine TO.p (DP.mv (by conv => lhs; whnf)) ?_
  refine TO.n (N.callF (number16_ok p b at_ v bs ss 2 hbs hlen hb ha h (by omega) (by omega)) Try.call28 ⟨rfl, rfl, rfl, trivial⟩ (by (repeat first | exact Pick.nil _ | (apply Pick.cons; focus ((repeat first | exact Del.head _ _ | apply Del.tail); done))))) ?_
  rintro u8 _ ⟨_, ⟨rfl, rfl⟩, rfl⟩
  try simp only [List.cons_append, List.nil_append]
  refine TO.p (DP.ex rfl rfl) ?_
  refine TO.p (DP.ex rfl rfl) ?_
  refine TO.p (DP.as (by conv => lhs; whnf)) ?_
  refine TO.p (DP.as (by conv => lhs; whnf)) ?_
  refine TO.nil ?_
  refine TQ.nn ?_
  refine T.ret ?_
  refine TQ.ret (vs := [.int .u16 (leN ((bs.drop at_).take 2) : Nat), .int .i64 0]) (L' := [_, _, _]) rfl ⟨rfl, rfl, rfl⟩ ⟨rfl, rfl⟩ (by (refine Ent.imp ?_; repeat first | exact Imp.refl _ | exact Imp.nil _ | (apply Imp.pull; focus ((repeat first | exact Del.head _ _ | apply Del.tail); done)) | (apply Imp.row; focus ((repeat first | exact Del.head _ _ | apply Del.tail); done)) | apply Imp.drop))

theorem u16_out (p b at_ : Nat) (v : Value) (bs : List UInt8) (ss : List Spn) (hbs : bs.length ≤ 1048576) (hlen : ss.length ≤ 1048576) (hb : ∀ s ∈ ss, s.1 + s.2 ≤ 1048576) (ha : at_ < 4294967296) (h : bs.length < at_ + 2) :
    Sat Try.prog 13 [.pointer (some ⟨p, 0, none⟩), .int .u32 at_] [row 70 p [.slice (some ⟨b, 0, none⟩) bs.length bs.length, v], row 5 b (bs.map byteV), sl 110 2 v ss.length (spans ss)] (fun u L' => u = .tuple #[.int .u16 (0 : Nat), .int .i64 10] ∧ L' = [row 70 p [.slice (some ⟨b, 0, none⟩) bs.length bs.length, v], row 5 b (bs.map byteV), sl 110 2 v ss.length (spans ss)]) := by
  refine Sat.enter Try.func13 rfl Try.ntmps13 rfl (fun c R => ?_)
  try simp only [List.cons_append, List.nil_append]
  refine T.seq ?_
  refine T.reg ?_
  refine TO.p (DP.as (by conv => lhs; whnf)) ?_
  refine TO.p (DP.as (by conv => lhs; whnf)) ?_
  refine TO.nil ?_
  refine TQ.nn ?_
  refine T.seq ?_
  refine T.reg ?_
  refine TO.p (DP.mv (by conv => lhs; whnf)) ?_
  refine TO.p (DP.mv (by conv => lhs; whnf)) ?_
  refine TO.n (N.callF (number16_out p b at_ v bs ss 2 hbs hlen hb ha (by omega) h) Try.call28 ⟨rfl, rfl, rfl, trivial⟩ (by (repeat first | exact Pick.nil _ | (apply Pick.cons; focus ((repeat first | exact Del.head _ _ | apply Del.tail); done))))) ?_
  rintro u8 _ ⟨_, ⟨rfl, rfl⟩, rfl⟩
  try simp only [List.cons_append, List.nil_append]
  refine TO.p (DP.ex rfl rfl) ?_
  refine TO.p (DP.ex rfl rfl) ?_
  refine TO.p (DP.as (by conv => lhs; whnf)) ?_
  refine TO.p (DP.as (by conv => lhs; whnf)) ?_
  refine TO.nil ?_
  refine TQ.nn ?_
  refine T.ret ?_
  refine TQ.ret (vs := [.int .u16 (0 : Nat), .int .i64 10]) (L' := [_, _, _]) rfl ⟨rfl, rfl, rfl⟩ ⟨rfl, rfl⟩ (by (refine Ent.imp ?_; repeat first | exact Imp.refl _ | exact Imp.nil _ | (apply Imp.pull; focus ((repeat first | exact Del.head _ _ | apply Del.tail); done)) | (apply Imp.row; focus ((repeat first | exact Del.head _ _ | apply Del.tail); done)) | apply Imp.drop))

theorem u16_nil (at_ : Nat) :
    Sat Try.prog 13 [.pointer none, .int .u32 at_] [] (fun u L' => u = .tuple #[.int .u16 (0 : Nat), .int .i64 1] ∧ L' = []) := by
  refine Sat.enter Try.func13 rfl Try.ntmps13 rfl (fun c R => ?_)
  try simp only [List.cons_append, List.nil_append]
  refine T.seq ?_
  refine T.reg ?_
  refine TO.p (DP.as (by conv => lhs; whnf)) ?_
  refine TO.p (DP.as (by conv => lhs; whnf)) ?_
  refine TO.nil ?_
  refine TQ.nn ?_
  refine T.seq ?_
  refine T.reg ?_
  refine TO.p (DP.mv (by conv => lhs; whnf)) ?_
  refine TO.p (DP.mv (by conv => lhs; whnf)) ?_
  refine TO.n (N.callF (number16_nil at_ 2) Try.call28 ⟨rfl, rfl, rfl, trivial⟩ (by (repeat first | exact Pick.nil _ | (apply Pick.cons; focus ((repeat first | exact Del.head _ _ | apply Del.tail); done))))) ?_
  rintro u8 _ ⟨_, ⟨rfl, rfl⟩, rfl⟩
  try simp only [List.cons_append, List.nil_append]
  refine TO.p (DP.ex rfl rfl) ?_
  refine TO.p (DP.ex rfl rfl) ?_
  refine TO.p (DP.as (by conv => lhs; whnf)) ?_
  refine TO.p (DP.as (by conv => lhs; whnf)) ?_
  refine TO.nil ?_
  refine TQ.nn ?_
  refine T.ret ?_
  refine TQ.ret (vs := [.int .u16 (0 : Nat), .int .i64 1]) (L' := []) rfl ⟨rfl, rfl, rfl⟩ ⟨rfl, rfl⟩ (by (refine Ent.imp ?_; repeat first | exact Imp.refl _ | exact Imp.nil _ | (apply Imp.pull; focus ((repeat first | exact Del.head _ _ | apply Del.tail); done)) | (apply Imp.row; focus ((repeat first | exact Del.head _ _ | apply Del.tail); done)) | apply Imp.drop))

theorem bytes16_spec (x n : Nat) (hx : x < 65536) (hn : n ≤ 8) (hn0 : 0 < n) :
    Sat Try.prog 72 [.int .u16 x, .int .i64 n] [] (fun u L' => u = str (leB x n) ∧ L' = []) := by
  refine Sat.enter Try.func72 rfl Try.ntmps72 rfl (fun c R => ?_)
  try simp only [List.cons_append, List.nil_append]
  refine T.seq ?_
  refine T.reg ?_
  refine TO.p (DP.as (by conv => lhs; whnf)) ?_
  refine TO.nil ?_
  refine TQ.nn ?_
  refine T.seq ?_
  refine T.reg ?_
  refine TO.p (DP.mv (by conv => lhs; whnf)) ?_
  refine TO.n (N.mk rfl rfl Try.underlying59 sz5 by5 zr5 rfl rfl (by omega)) ?_
  rintro _ _ ⟨b8, rfl, rfl⟩
  refine TO.p (DP.as (by conv => lhs; whnf)) ?_
  refine TO.nil ?_
  refine TQ.nn ?_
  refine T.seq ?_
  refine T.seq ?_
  have hfl : (List.replicate n [Value.int .u8 0]).flatten = (leB x 0 ++ List.replicate (n - 0) 0).map byteV := by rw [← leB_zero]; simp
  rw [hfl]
  refine T.reg ?_
  refine TO.p (DP.mv (by conv => lhs; whnf)) ?_
  refine TO.p (DP.lenS rfl Try.underlying59) ?_
  refine TO.p (DP.mv (by conv => lhs; whnf)) ?_
  refine TO.nil ?_
  refine TQ.nn ?_
  refine T.block ?_
  refine T.loop (S := Nat) 0 (fun i => [(0, .int .u16 x), (5, .slice (some ⟨b8, 0, none⟩) n n), (10, .int .i64 (n : Nat)), (11, .int .i64 (i : Nat))]) (fun i => row 5 b8 ((leB x i ++ List.replicate (n - i) 0).map byteV) :: R) (fun i => i ≤ n) (fun i => n - i) ?_ ?_ ?_ ?_
  · (repeat first | exact trivial | refine ⟨rfl, ?_⟩)
  · (first | trivial | omega | simp)
  · exact Ent.refl _ _
  rintro i g hI
  refine T.seq ?_
  refine T.reg ?_
  refine TO.p (DP.lss rfl rfl) ?_
  refine TO.nil ?_
  refine TQ.nn ?_
  refine T.seq ?_
  refine T.condD rfl (fun hc0 => ?_) (fun hc0 => ?_)
  · refine T.skip ?_
    refine TQ.nn ?_
    refine T.seq ?_
    refine T.block ?_
    refine T.seq ?_
    refine T.reg ?_
    refine TO.p (DP.mv (by conv => lhs; whnf)) ?_
    refine TO.p (DP.as (by conv => lhs; whnf)) ?_
    refine TO.nil ?_
    refine TQ.nn ?_
    refine T.reg ?_
    refine TO.p (DP.mv (by conv => lhs; whnf)) ?_
    refine TO.p (DP.mv (by conv => lhs; whnf)) ?_
    refine TO.p (DP.mv (by conv => lhs; whnf)) ?_
    refine TO.p (DP.mv (by conv => lhs; whnf)) ?_
    refine TO.p (DP.mul (a := 8) rfl rfl (l := 9223372036854775808) rfl (by omega)) ?_
    refine TO.p (DP.shr (b := 8 * i) rfl rfl (l := 65536) rfl (by omega)) ?_
    refine TO.p (DP.cvW rfl is39 Try.underlying5 rfl (l := 256) rfl) ?_
    refine TO.p (DP.to (v' := .pointer (some ⟨b8, i, none⟩)) (DP.ias rfl rfl Try.underlying59 sz5 (by omega)) (by simp)) ?_
    refine TO.n0 (N.st rfl (by conv => lhs; whnf) sz5 (by (repeat first | exact Put.head _ _ _ | apply Put.tail)) (by simp [leB_len]; omega) (by rfl)) ?_
    rintro _ _ ⟨rfl, rfl⟩
    refine TO.nil ?_
    refine TQ.bn ?_
    refine TQ.nn ?_
    refine T.reg ?_
    refine TO.p (DP.add (b := 1) rfl rfl (l := 9223372036854775808) rfl (by omega)) ?_
    refine TO.p (DP.mv (by conv => lhs; whnf)) ?_
    refine TO.nil ?_
    refine TQ.round (i + 1) rfl ?_ ?_ ?_ ?_
    · (repeat first | exact trivial | refine ⟨rfl, ?_⟩)
    · omega
    · omega
    · (rw [← leB_set (x := x) (n := n) (i := i) (by omega)]; exact Ent.refl _ _)
  · obtain rfl : n = i := by omega
    rw [leB_full]
    refine T.exit ?_
    refine TQ.ne ?_
    refine TQ.le ?_
    refine TQ.be ?_
    refine TQ.nn ?_
    refine T.seq ?_
    refine T.reg ?_
    refine TO.p (DP.mv (by conv => lhs; whnf)) ?_
    refine TO.d (D.cbs (l := leB x n) (A := row 5 b8 ((leB x n).map byteV)) rfl Try.underlying59 Try.underlying9 Try.underlying5 (leB_len _ _) (by (repeat first | exact LMem.head _ _ | apply LMem.tail)) (ReadsN.row (by simp))) ?_
    refine TO.p (DP.as (by conv => lhs; whnf)) ?_
    refine TO.nil ?_
    refine TQ.nn ?_
    refine T.ret ?_
    refine TQ.ret (vs := [str (leB x n)]) (L' := []) rfl ⟨rfl, rfl⟩ ⟨rfl, rfl⟩ (by (refine Ent.imp ?_; repeat first | exact Imp.refl _ | exact Imp.nil _ | (apply Imp.pull; focus ((repeat first | exact Del.head _ _ | apply Del.tail); done)) | (apply Imp.row; focus ((repeat first | exact Del.head _ _ | apply Del.tail); done)) | apply Imp.drop))

theorem put16_ok (p b at_ : Nat) (v : Value) (bs : List UInt8) (ss : List Spn) (x : Nat) (hx : x < 65536) (hbs : bs.length ≤ 1048576) (hlen : ss.length ≤ 1048576) (hb : ∀ s ∈ ss, s.1 + s.2 ≤ 1048576) (ha : at_ < 4294967296) (h : at_ + 2 ≤ bs.length) (hs : sharedN ss at_ 2 = 0) :
    Sat Try.prog 53 [.pointer (some ⟨p, 0, none⟩), .int .u32 at_, .int .u16 x] [row 70 p [.slice (some ⟨b, 0, none⟩) bs.length bs.length, v], row 5 b (bs.map byteV), sl 110 2 v ss.length (spans ss)] (fun u L' => u = .int .i64 0 ∧ L' = [row 70 p [.slice (some ⟨b, 0, none⟩) bs.length bs.length, v], row 5 b ((putB bs at_ (leB x 2)).map byteV), sl 110 2 v ss.length (spans ss)]) := by
  refine Sat.enter Try.func53 rfl Try.ntmps53 rfl (fun c R => ?_)
  try simp only [List.cons_append, List.nil_append]
  refine T.seq ?_
  refine T.reg ?_
  refine TO.p (DP.as (by conv => lhs; whnf)) ?_
  refine TO.nil ?_
  refine TQ.nn ?_
  refine T.seq ?_
  refine T.reg ?_
  refine TO.p (DP.mv (by conv => lhs; whnf)) ?_
  refine TO.p (DP.mv (by conv => lhs; whnf)) ?_
  refine TO.p (DP.mv (by conv => lhs; whnf)) ?_
  refine TO.n (N.callF (bytes16_spec x 2 hx (by omega) (by omega)) Try.call72 ⟨rfl, rfl, trivial⟩ (by (repeat first | exact Pick.nil _ | (apply Pick.cons; focus ((repeat first | exact Del.head _ _ | apply Del.tail); done))))) ?_
  rintro u10 _ ⟨_, ⟨rfl, rfl⟩, rfl⟩
  try simp only [List.cons_append, List.nil_append]
  refine TO.n (N.callF (write_ok p b at_ v bs ss (leB x 2) hbs hlen hb ha (by rw [leB_len]; exact h) (by rw [leB_len]; exact hs)) Try.call31 ⟨rfl, rfl, rfl, trivial⟩ (by (repeat first | exact Pick.nil _ | (apply Pick.cons; focus ((repeat first | exact Del.head _ _ | apply Del.tail); done))))) ?_
  rintro u11 _ ⟨_, ⟨rfl, rfl⟩, rfl⟩
  try simp only [List.cons_append, List.nil_append]
  refine TO.p (DP.as (by conv => lhs; whnf)) ?_
  refine TO.nil ?_
  refine TQ.nn ?_
  refine T.ret ?_
  refine TQ.ret (vs := [.int .i64 0]) (L' := [_, _, _]) rfl ⟨rfl, rfl⟩ ⟨rfl, rfl⟩ (by (refine Ent.imp ?_; repeat first | exact Imp.refl _ | exact Imp.nil _ | (apply Imp.pull; focus ((repeat first | exact Del.head _ _ | apply Del.tail); done)) | (apply Imp.row; focus ((repeat first | exact Del.head _ _ | apply Del.tail); done)) | apply Imp.drop))

theorem put16_bad (p b at_ : Nat) (v : Value) (bs : List UInt8) (ss : List Spn) (x : Nat) (hx : x < 65536) (hbs : bs.length ≤ 1048576) (hlen : ss.length ≤ 1048576) (hb : ∀ s ∈ ss, s.1 + s.2 ≤ 1048576) (ha : at_ < 4294967296) (h : at_ + 2 ≤ bs.length) (hs : 0 < sharedN ss at_ 2) :
    Sat Try.prog 53 [.pointer (some ⟨p, 0, none⟩), .int .u32 at_, .int .u16 x] [row 70 p [.slice (some ⟨b, 0, none⟩) bs.length bs.length, v], row 5 b (bs.map byteV), sl 110 2 v ss.length (spans ss)] (fun u L' => u = .int .i64 11 ∧ L' = [row 70 p [.slice (some ⟨b, 0, none⟩) bs.length bs.length, v], row 5 b (bs.map byteV), sl 110 2 v ss.length (spans ss)]) := by
  refine Sat.enter Try.func53 rfl Try.ntmps53 rfl (fun c R => ?_)
  try simp only [List.cons_append, List.nil_append]
  refine T.seq ?_
  refine T.reg ?_
  refine TO.p (DP.as (by conv => lhs; whnf)) ?_
  refine TO.nil ?_
  refine TQ.nn ?_
  refine T.seq ?_
  refine T.reg ?_
  refine TO.p (DP.mv (by conv => lhs; whnf)) ?_
  refine TO.p (DP.mv (by conv => lhs; whnf)) ?_
  refine TO.p (DP.mv (by conv => lhs; whnf)) ?_
  refine TO.n (N.callF (bytes16_spec x 2 hx (by omega) (by omega)) Try.call72 ⟨rfl, rfl, trivial⟩ (by (repeat first | exact Pick.nil _ | (apply Pick.cons; focus ((repeat first | exact Del.head _ _ | apply Del.tail); done))))) ?_
  rintro u10 _ ⟨_, ⟨rfl, rfl⟩, rfl⟩
  try simp only [List.cons_append, List.nil_append]
  refine TO.n (N.callF (write_bad p b at_ v bs ss (leB x 2) hbs hlen hb ha (by rw [leB_len]; exact h) (by rw [leB_len]; exact hs)) Try.call31 ⟨rfl, rfl, rfl, trivial⟩ (by (repeat first | exact Pick.nil _ | (apply Pick.cons; focus ((repeat first | exact Del.head _ _ | apply Del.tail); done))))) ?_
  rintro u11 _ ⟨_, ⟨rfl, rfl⟩, rfl⟩
  try simp only [List.cons_append, List.nil_append]
  refine TO.p (DP.as (by conv => lhs; whnf)) ?_
  refine TO.nil ?_
  refine TQ.nn ?_
  refine T.ret ?_
  refine TQ.ret (vs := [.int .i64 11]) (L' := [_, _, _]) rfl ⟨rfl, rfl⟩ ⟨rfl, rfl⟩ (by (refine Ent.imp ?_; repeat first | exact Imp.refl _ | exact Imp.nil _ | (apply Imp.pull; focus ((repeat first | exact Del.head _ _ | apply Del.tail); done)) | (apply Imp.row; focus ((repeat first | exact Del.head _ _ | apply Del.tail); done)) | apply Imp.drop))

theorem put16_out (p b at_ : Nat) (v : Value) (bs : List UInt8) (ss : List Spn) (x : Nat) (hx : x < 65536) (hbs : bs.length ≤ 1048576) (hlen : ss.length ≤ 1048576) (hb : ∀ s ∈ ss, s.1 + s.2 ≤ 1048576) (ha : at_ < 4294967296) (h : bs.length < at_ + 2) :
    Sat Try.prog 53 [.pointer (some ⟨p, 0, none⟩), .int .u32 at_, .int .u16 x] [row 70 p [.slice (some ⟨b, 0, none⟩) bs.length bs.length, v], row 5 b (bs.map byteV), sl 110 2 v ss.length (spans ss)] (fun u L' => u = .int .i64 10 ∧ L' = [row 70 p [.slice (some ⟨b, 0, none⟩) bs.length bs.length, v], row 5 b (bs.map byteV), sl 110 2 v ss.length (spans ss)]) := by
  refine Sat.enter Try.func53 rfl Try.ntmps53 rfl (fun c R => ?_)
  try simp only [List.cons_append, List.nil_append]
  refine T.seq ?_
  refine T.reg ?_
  refine TO.p (DP.as (by conv => lhs; whnf)) ?_
  refine TO.nil ?_
  refine TQ.nn ?_
  refine T.seq ?_
  refine T.reg ?_
  refine TO.p (DP.mv (by conv => lhs; whnf)) ?_
  refine TO.p (DP.mv (by conv => lhs; whnf)) ?_
  refine TO.p (DP.mv (by conv => lhs; whnf)) ?_
  refine TO.n (N.callF (bytes16_spec x 2 hx (by omega) (by omega)) Try.call72 ⟨rfl, rfl, trivial⟩ (by (repeat first | exact Pick.nil _ | (apply Pick.cons; focus ((repeat first | exact Del.head _ _ | apply Del.tail); done))))) ?_
  rintro u10 _ ⟨_, ⟨rfl, rfl⟩, rfl⟩
  try simp only [List.cons_append, List.nil_append]
  refine TO.n (N.callF (write_out p b at_ v bs ss (leB x 2) hbs hlen hb ha (by rw [leB_len]; omega) (by rw [leB_len]; exact h)) Try.call31 ⟨rfl, rfl, rfl, trivial⟩ (by (repeat first | exact Pick.nil _ | (apply Pick.cons; focus ((repeat first | exact Del.head _ _ | apply Del.tail); done))))) ?_
  rintro u11 _ ⟨_, ⟨rfl, rfl⟩, rfl⟩
  try simp only [List.cons_append, List.nil_append]
  refine TO.p (DP.as (by conv => lhs; whnf)) ?_
  refine TO.nil ?_
  refine TQ.nn ?_
  refine T.ret ?_
  refine TQ.ret (vs := [.int .i64 10]) (L' := [_, _, _]) rfl ⟨rfl, rfl⟩ ⟨rfl, rfl⟩ (by (refine Ent.imp ?_; repeat first | exact Imp.refl _ | exact Imp.nil _ | (apply Imp.pull; focus ((repeat first | exact Del.head _ _ | apply Del.tail); done)) | (apply Imp.row; focus ((repeat first | exact Del.head _ _ | apply Del.tail); done)) | apply Imp.drop))

theorem put16_nil (at_ x : Nat) (hx : x < 65536) :
    Sat Try.prog 53 [.pointer none, .int .u32 at_, .int .u16 x] [] (fun u L' => u = .int .i64 1 ∧ L' = []) := by
  refine Sat.enter Try.func53 rfl Try.ntmps53 rfl (fun c R => ?_)
  try simp only [List.cons_append, List.nil_append]
  refine T.seq ?_
  refine T.reg ?_
  refine TO.p (DP.as (by conv => lhs; whnf)) ?_
  refine TO.nil ?_
  refine TQ.nn ?_
  refine T.seq ?_
  refine T.reg ?_
  refine TO.p (DP.mv (by conv => lhs; whnf)) ?_
  refine TO.p (DP.mv (by conv => lhs; whnf)) ?_
  refine TO.p (DP.mv (by conv => lhs; whnf)) ?_
  refine TO.n (N.callF (bytes16_spec x 2 hx (by omega) (by omega)) Try.call72 ⟨rfl, rfl, trivial⟩ (by (repeat first | exact Pick.nil _ | (apply Pick.cons; focus ((repeat first | exact Del.head _ _ | apply Del.tail); done))))) ?_
  rintro u10 _ ⟨_, ⟨rfl, rfl⟩, rfl⟩
  try simp only [List.cons_append, List.nil_append]
  refine TO.n (N.callF (write_nil at_ (leB x 2)) Try.call31 ⟨rfl, rfl, rfl, trivial⟩ (by (repeat first | exact Pick.nil _ | (apply Pick.cons; focus ((repeat first | exact Del.head _ _ | apply Del.tail); done))))) ?_
  rintro u11 _ ⟨_, ⟨rfl, rfl⟩, rfl⟩
  try simp only [List.cons_append, List.nil_append]
  refine TO.p (DP.as (by conv => lhs; whnf)) ?_
  refine TO.nil ?_
  refine TQ.nn ?_
  refine T.ret ?_
  refine TQ.ret (vs := [.int .i64 1]) (L' := []) rfl ⟨rfl, rfl⟩ ⟨rfl, rfl⟩ (by (refine Ent.imp ?_; repeat first | exact Imp.refl _ | exact Imp.nil _ | (apply Imp.pull; focus ((repeat first | exact Del.head _ _ | apply Del.tail); done)) | (apply Imp.row; focus ((repeat first | exact Del.head _ _ | apply Del.tail); done)) | apply Imp.drop))

theorem number32_ok (p b at_ : Nat) (v : Value) (bs : List UInt8) (ss : List Spn) (n : Nat) (hbs : bs.length ≤ 1048576) (hlen : ss.length ≤ 1048576) (hb : ∀ s ∈ ss, s.1 + s.2 ≤ 1048576) (ha : at_ < 4294967296) (h : at_ + n ≤ bs.length) (h0 : 0 < n) (hw : 8 * n ≤ 32) :
    Sat Try.prog 86 [.pointer (some ⟨p, 0, none⟩), .int .u32 at_, .int .i64 n] [row 70 p [.slice (some ⟨b, 0, none⟩) bs.length bs.length, v], row 5 b (bs.map byteV), sl 110 2 v ss.length (spans ss)] (fun u L' => u = .tuple #[.int .u32 (leN ((bs.drop at_).take n) : Nat), .int .i64 0] ∧ L' = [row 70 p [.slice (some ⟨b, 0, none⟩) bs.length bs.length, v], row 5 b (bs.map byteV), sl 110 2 v ss.length (spans ss)]) := by
  refine Sat.enter Try.func86 rfl Try.ntmps86 rfl (fun c R => ?_)
  try simp only [List.cons_append, List.nil_append]
  refine T.seq ?_
  refine T.reg ?_
  refine TO.p (DP.as (by conv => lhs; whnf)) ?_
  refine TO.p (DP.as (by conv => lhs; whnf)) ?_
  refine TO.nil ?_
  refine TQ.nn ?_
  refine T.seq ?_
  refine T.reg ?_
  refine TO.p (DP.mv (by conv => lhs; whnf)) ?_
  refine TO.p (DP.mv (by conv => lhs; whnf)) ?_
  refine TO.p (DP.mv (by conv => lhs; whnf)) ?_
  refine TO.n (N.callF (part_pos p bs.length at_ n b v hbs ha h h0) Try.call41 ⟨rfl, rfl, rfl, trivial⟩ (by (repeat first | exact Pick.nil _ | (apply Pick.cons; focus ((repeat first | exact Del.head _ _ | apply Del.tail); done))))) ?_
  rintro u17 _ ⟨_, ⟨rfl, rfl⟩, rfl⟩
  try simp only [List.cons_append, List.nil_append]
  refine TO.p (DP.mv (by conv => lhs; whnf)) ?_
  refine TO.p (DP.ex rfl rfl) ?_
  refine TO.p (DP.ex rfl rfl) ?_
  refine TO.p (DP.as (by conv => lhs; whnf)) ?_
  refine TO.p (DP.as (by conv => lhs; whnf)) ?_
  refine TO.nil ?_
  refine TQ.nn ?_
  refine T.seq ?_
  refine T.reg ?_
  refine TO.p (DP.as (by conv => lhs; whnf)) ?_
  refine TO.nil ?_
  refine TQ.nn ?_
  refine T.seq ?_
  refine T.seq ?_
  refine T.reg ?_
  refine TO.p (DP.mv (by conv => lhs; whnf)) ?_
  refine TO.p (DP.lenS rfl Try.underlying59) ?_
  refine TO.p (DP.mv (by conv => lhs; whnf)) ?_
  refine TO.nil ?_
  refine TQ.nn ?_
  refine T.block ?_
  refine T.loop (S := Nat) 0 (fun i => [(9, .int .i64 (0 : Nat)), (10, .int .u32 (leN (((bs.drop at_).take n).take i) : Nat)), (20, .slice (some ⟨b, at_, none⟩) n n), (21, .int .i64 (n : Nat)), (22, .int .i64 (i : Nat))]) (fun i => row 70 p [.slice (some ⟨b, 0, none⟩) bs.length bs.length, v] :: row 5 b (bs.map byteV) :: sl 110 2 v ss.length (spans ss) :: R) (fun i => i ≤ n) (fun i => n - i) ?_ ?_ ?_ ?_
  · (repeat first | exact trivial | refine ⟨rfl, ?_⟩)
  · (first | trivial | omega | simp)
  · exact Ent.refl _ _
  rintro i g hI
  refine T.seq ?_
  refine T.reg ?_
  refine TO.p (DP.lss rfl rfl) ?_
  refine TO.nil ?_
  refine TQ.nn ?_
  refine T.seq ?_
  refine T.condD rfl (fun hc0 => ?_) (fun hc0 => ?_)
  · have hln := len_part h
    obtain ⟨x, hx⟩ := get_some (l := (bs.drop at_).take n) (i := i) (by omega)
    have hnx := leN_succ (w := 32) hx (by omega)
    have hlt := leN_lt (((bs.drop at_).take n).take i)
    have hll : (((bs.drop at_).take n).take i).length = i := by rw [List.length_take, hln]; omega
    rw [hll] at hlt
    have hpw : (256 : Nat) ^ i ≤ 2 ^ 32 := by rw [show (256 : Nat) = 2 ^ 8 from rfl, ← Nat.pow_mul]; exact Nat.pow_le_pow_right (by omega) (by omega)
    have hrx : (bs.map byteV)[at_ + i * (0 + 1)]? = some (byteV x) := by rw [List.getElem?_map]; rw [List.getElem?_take, List.getElem?_drop] at hx; rw [if_pos (by omega)] at hx; simp [hx]
    have hxl := x.toNat_lt
    refine T.skip ?_
    refine TQ.nn ?_
    refine T.seq ?_
    refine T.block ?_
    refine T.seq ?_
    refine T.reg ?_
    refine TO.p (DP.mv (by conv => lhs; whnf)) ?_
    refine TO.p (DP.ias rfl rfl Try.underlying59 sz5 (by omega)) ?_
    refine TO.d (D.ldR (v := byteV x) rfl pl5 (by (repeat first | exact LMem.head _ _ | apply LMem.tail)) hrx) ?_
    refine TO.p (DP.as (by conv => lhs; whnf)) ?_
    refine TO.p (DP.as (by conv => lhs; whnf)) ?_
    refine TO.nil ?_
    refine TQ.nn ?_
    refine T.reg ?_
    refine TO.p (DP.mv (by conv => lhs; whnf)) ?_
    refine TO.p (DP.mv (by conv => lhs; whnf)) ?_
    refine TO.p (DP.cv (a := x.toNat) rfl is5 Try.underlying30 (l := 4294967296) rfl (by omega)) ?_
    refine TO.p (DP.mv (by conv => lhs; whnf)) ?_
    refine TO.p (DP.mul (a := 8) rfl rfl (l := 9223372036854775808) rfl (by omega)) ?_
    refine TO.p (DP.shl (b := 8 * i) rfl rfl rfl (l := 2 ^ 32) rfl) ?_
    refine TO.p (DP.bor rfl rfl (l := 2 ^ 32) rfl (by omega) (Nat.mod_lt _ (by decide))) ?_
    refine TO.p (DP.as (by conv => lhs; whnf)) ?_
    refine TO.nil ?_
    refine TQ.bn ?_
    refine TQ.nn ?_
    refine T.reg ?_
    refine TO.p (DP.add (b := 1) rfl rfl (l := 9223372036854775808) rfl (by omega)) ?_
    refine TO.p (DP.mv (by conv => lhs; whnf)) ?_
    refine TO.nil ?_
    refine TQ.round (i + 1) rfl ?_ ?_ ?_ ?_
    · (repeat first | exact trivial | refine ⟨rfl, ?_⟩ | refine ⟨by rw [hnx] <;> rfl, ?_⟩)
    · omega
    · omega
    · exact Ent.refl _ _
  · obtain rfl : n = i := by omega
    refine T.exit ?_
    refine TQ.ne ?_
    refine TQ.le ?_
    refine TQ.be ?_
    refine TQ.nn ?_
    refine T.seq ?_
    refine T.reg ?_
    refine TO.p (DP.mv (by conv => lhs; whnf)) ?_
    refine TO.p (DP.mv (by conv => lhs; whnf)) ?_
    refine TO.p (DP.as (by conv => lhs; whnf)) ?_
    refine TO.p (DP.as (by conv => lhs; whnf)) ?_
    refine TO.nil ?_
    refine TQ.nn ?_
    refine T.ret ?_
    refine TQ.ret (vs := [.int .u32 (leN ((bs.drop at_).take n) : Nat), .int .i64 0]) (L' := [_, _, _]) rfl ⟨by rw [List.take_take, Nat.min_self]; rfl, rfl, rfl⟩ ⟨rfl, rfl⟩ (by (refine Ent.imp ?_; repeat first | exact Imp.refl _ | exact Imp.nil _ | (apply Imp.pull; focus ((repeat first | exact Del.head _ _ | apply Del.tail); done)) | (apply Imp.row; focus ((repeat first | exact Del.head _ _ | apply Del.tail); done)) | apply Imp.drop))

theorem number32_out (p b at_ : Nat) (v : Value) (bs : List UInt8) (ss : List Spn) (n : Nat) (hbs : bs.length ≤ 1048576) (hlen : ss.length ≤ 1048576) (hb : ∀ s ∈ ss, s.1 + s.2 ≤ 1048576) (ha : at_ < 4294967296) (hm : n < 9223372036854775808) (h : bs.length < at_ + n) :
    Sat Try.prog 86 [.pointer (some ⟨p, 0, none⟩), .int .u32 at_, .int .i64 n] [row 70 p [.slice (some ⟨b, 0, none⟩) bs.length bs.length, v], row 5 b (bs.map byteV), sl 110 2 v ss.length (spans ss)] (fun u L' => u = .tuple #[.int .u32 (0 : Nat), .int .i64 10] ∧ L' = [row 70 p [.slice (some ⟨b, 0, none⟩) bs.length bs.length, v], row 5 b (bs.map byteV), sl 110 2 v ss.length (spans ss)]) := by
  refine Sat.enter Try.func86 rfl Try.ntmps86 rfl (fun c R => ?_)
  try simp only [List.cons_append, List.nil_append]
  refine T.seq ?_
  refine T.reg ?_
  refine TO.p (DP.as (by conv => lhs; whnf)) ?_
  refine TO.p (DP.as (by conv => lhs; whnf)) ?_
  refine TO.nil ?_
  refine TQ.nn ?_
  refine T.seq ?_
  refine T.reg ?_
  refine TO.p (DP.mv (by conv => lhs; whnf)) ?_
  refine TO.p (DP.mv (by conv => lhs; whnf)) ?_
  refine TO.p (DP.mv (by conv => lhs; whnf)) ?_
  refine TO.n (N.callF (part_out p bs.length at_ n b v hbs ha hm h) Try.call41 ⟨rfl, rfl, rfl, trivial⟩ (by (repeat first | exact Pick.nil _ | (apply Pick.cons; focus ((repeat first | exact Del.head _ _ | apply Del.tail); done))))) ?_
  rintro u17 _ ⟨_, ⟨rfl, rfl⟩, rfl⟩
  try simp only [List.cons_append, List.nil_append]
  refine TO.p (DP.mv (by conv => lhs; whnf)) ?_
  refine TO.p (DP.ex rfl rfl) ?_
  refine TO.p (DP.ex rfl rfl) ?_
  refine TO.p (DP.as (by conv => lhs; whnf)) ?_
  refine TO.p (DP.as (by conv => lhs; whnf)) ?_
  refine TO.nil ?_
  refine TQ.nn ?_
  refine T.seq ?_
  refine T.reg ?_
  refine TO.p (DP.as (by conv => lhs; whnf)) ?_
  refine TO.nil ?_
  refine TQ.nn ?_
  refine T.seq ?_
  refine T.seq ?_
  refine T.reg ?_
  refine TO.p (DP.mv (by conv => lhs; whnf)) ?_
  refine TO.p (DP.lenS rfl Try.underlying59) ?_
  refine TO.p (DP.mv (by conv => lhs; whnf)) ?_
  refine TO.nil ?_
  refine TQ.nn ?_
  refine T.block ?_
  refine T.loop (S := Unit) () (fun _ => [(9, .int .i64 10), (10, .int .u32 (0 : Nat)), (21, .int .i64 (0 : Nat)), (22, .int .i64 (0 : Nat))]) (fun _ => row 70 p [.slice (some ⟨b, 0, none⟩) bs.length bs.length, v] :: row 5 b (bs.map byteV) :: sl 110 2 v ss.length (spans ss) :: R) (fun _ => True) (fun _ => 0) ?_ ?_ ?_ ?_
  · (repeat first | exact trivial | refine ⟨rfl, ?_⟩)
  · (first | trivial | omega | simp)
  · exact Ent.refl _ _
  rintro _ g hI
  refine T.seq ?_
  refine T.reg ?_
  refine TO.p (DP.lss (a := 0) (b := 0) rfl rfl) ?_
  refine TO.nil ?_
  refine TQ.nn ?_
  refine T.seq ?_
  refine T.condD rfl (fun hc0 => ?_) (fun hc0 => ?_)
  · exact absurd hc0 (by omega)
  · refine T.exit ?_
    refine TQ.ne ?_
    refine TQ.le ?_
    refine TQ.be ?_
    refine TQ.nn ?_
    refine T.seq ?_
    refine T.reg ?_
    refine TO.p (DP.mv (by conv => lhs; whnf)) ?_
    refine TO.p (DP.mv (by conv => lhs; whnf)) ?_
    refine TO.p (DP.as (by conv => lhs; whnf)) ?_
    refine TO.p (DP.as (by conv => lhs; whnf)) ?_
    refine TO.nil ?_
    refine TQ.nn ?_
    refine T.ret ?_
    refine TQ.ret (vs := [.int .u32 (0 : Nat), .int .i64 10]) (L' := [_, _, _]) rfl ⟨rfl, rfl, rfl⟩ ⟨rfl, rfl⟩ (by (refine Ent.imp ?_; repeat first | exact Imp.refl _ | exact Imp.nil _ | (apply Imp.pull; focus ((repeat first | exact Del.head _ _ | apply Del.tail); done)) | (apply Imp.row; focus ((repeat first | exact Del.head _ _ | apply Del.tail); done)) | apply Imp.drop))

theorem number32_nil (at_ n : Nat) :
    Sat Try.prog 86 [.pointer none, .int .u32 at_, .int .i64 n] [] (fun u L' => u = .tuple #[.int .u32 (0 : Nat), .int .i64 1] ∧ L' = []) := by
  refine Sat.enter Try.func86 rfl Try.ntmps86 rfl (fun c R => ?_)
  try simp only [List.cons_append, List.nil_append]
  refine T.seq ?_
  refine T.reg ?_
  refine TO.p (DP.as (by conv => lhs; whnf)) ?_
  refine TO.p (DP.as (by conv => lhs; whnf)) ?_
  refine TO.nil ?_
  refine TQ.nn ?_
  refine T.seq ?_
  refine T.reg ?_
  refine TO.p (DP.mv (by conv => lhs; whnf)) ?_
  refine TO.p (DP.mv (by conv => lhs; whnf)) ?_
  refine TO.p (DP.mv (by conv => lhs; whnf)) ?_
  refine TO.n (N.callF (part_nil at_ n) Try.call41 ⟨rfl, rfl, rfl, trivial⟩ (by (repeat first | exact Pick.nil _ | (apply Pick.cons; focus ((repeat first | exact Del.head _ _ | apply Del.tail); done))))) ?_
  rintro u17 _ ⟨_, ⟨rfl, rfl⟩, rfl⟩
  try simp only [List.cons_append, List.nil_append]
  refine TO.p (DP.mv (by conv => lhs; whnf)) ?_
  refine TO.p (DP.ex rfl rfl) ?_
  refine TO.p (DP.ex rfl rfl) ?_
  refine TO.p (DP.as (by conv => lhs; whnf)) ?_
  refine TO.p (DP.as (by conv => lhs; whnf)) ?_
  refine TO.nil ?_
  refine TQ.nn ?_
  refine T.seq ?_
  refine T.reg ?_
  refine TO.p (DP.as (by conv => lhs; whnf)) ?_
  refine TO.nil ?_
  refine TQ.nn ?_
  refine T.seq ?_
  refine T.seq ?_
  refine T.reg ?_
  refine TO.p (DP.mv (by conv => lhs; whnf)) ?_
  refine TO.p (DP.lenS rfl Try.underlying59) ?_
  refine TO.p (DP.mv (by conv => lhs; whnf)) ?_
  refine TO.nil ?_
  refine TQ.nn ?_
  refine T.block ?_
  refine T.loop (S := Unit) () (fun _ => [(9, .int .i64 1), (10, .int .u32 (0 : Nat)), (21, .int .i64 (0 : Nat)), (22, .int .i64 (0 : Nat))]) (fun _ => R) (fun _ => True) (fun _ => 0) ?_ ?_ ?_ ?_
  · (repeat first | exact trivial | refine ⟨rfl, ?_⟩)
  · (first | trivial | omega | simp)
  · exact Ent.refl _ _
  rintro _ g hI
  refine T.seq ?_
  refine T.reg ?_
  refine TO.p (DP.lss (a := 0) (b := 0) rfl rfl) ?_
  refine TO.nil ?_
  refine TQ.nn ?_
  refine T.seq ?_
  refine T.condD rfl (fun hc0 => ?_) (fun hc0 => ?_)
  · exact absurd hc0 (by omega)
  · refine T.exit ?_
    refine TQ.ne ?_
    refine TQ.le ?_
    refine TQ.be ?_
    refine TQ.nn ?_
    refine T.seq ?_
    refine T.reg ?_
    refine TO.p (DP.mv (by conv => lhs; whnf)) ?_
    refine TO.p (DP.mv (by conv => lhs; whnf)) ?_
    refine TO.p (DP.as (by conv => lhs; whnf)) ?_
    refine TO.p (DP.as (by conv => lhs; whnf)) ?_
    refine TO.nil ?_
    refine TQ.nn ?_
    refine T.ret ?_
    refine TQ.ret (vs := [.int .u32 (0 : Nat), .int .i64 1]) (L' := []) rfl ⟨rfl, rfl, rfl⟩ ⟨rfl, rfl⟩ (by (refine Ent.imp ?_; repeat first | exact Imp.refl _ | exact Imp.nil _ | (apply Imp.pull; focus ((repeat first | exact Del.head _ _ | apply Del.tail); done)) | (apply Imp.row; focus ((repeat first | exact Del.head _ _ | apply Del.tail); done)) | apply Imp.drop))

theorem u32_ok (p b at_ : Nat) (v : Value) (bs : List UInt8) (ss : List Spn) (hbs : bs.length ≤ 1048576) (hlen : ss.length ≤ 1048576) (hb : ∀ s ∈ ss, s.1 + s.2 ≤ 1048576) (ha : at_ < 4294967296) (h : at_ + 4 ≤ bs.length) :
    Sat Try.prog 78 [.pointer (some ⟨p, 0, none⟩), .int .u32 at_] [row 70 p [.slice (some ⟨b, 0, none⟩) bs.length bs.length, v], row 5 b (bs.map byteV), sl 110 2 v ss.length (spans ss)] (fun u L' => u = .tuple #[.int .u32 (leN ((bs.drop at_).take 4) : Nat), .int .i64 0] ∧ L' = [row 70 p [.slice (some ⟨b, 0, none⟩) bs.length bs.length, v], row 5 b (bs.map byteV), sl 110 2 v ss.length (spans ss)]) := by
  refine Sat.enter Try.func78 rfl Try.ntmps78 rfl (fun c R => ?_)
  try simp only [List.cons_append, List.nil_append]
  refine T.seq ?_
  refine T.reg ?_
  refine TO.p (DP.as (by conv => lhs; whnf)) ?_
  refine TO.p (DP.as (by conv => lhs; whnf)) ?_
  refine TO.nil ?_
  refine TQ.nn ?_
  refine T.seq ?_
  refine T.reg ?_
  refine TO.p (DP.mv (by conv => lhs; whnf)) ?_
  refine TO.p (DP.mv (by conv => lhs; whnf)) ?_
  refine TO.n (N.callF (number32_ok p b at_ v bs ss 4 hbs hlen hb ha h (by omega) (by omega)) Try.call86 ⟨rfl, rfl, rfl, trivial⟩ (by (repeat first | exact Pick.nil _ | (apply Pick.cons; focus ((repeat first | exact Del.head _ _ | apply Del.tail); done))))) ?_
  rintro u8 _ ⟨_, ⟨rfl, rfl⟩, rfl⟩
  try simp only [List.cons_append, List.nil_append]
  refine TO.p (DP.ex rfl rfl) ?_
  refine TO.p (DP.ex rfl rfl) ?_
  refine TO.p (DP.as (by conv => lhs; whnf)) ?_
  refine TO.p (DP.as (by conv => lhs; whnf)) ?_
  refine TO.nil ?_
  refine TQ.nn ?_
  refine T.ret ?_
  refine TQ.ret (vs := [.int .u32 (leN ((bs.drop at_).take 4) : Nat), .int .i64 0]) (L' := [_, _, _]) rfl ⟨rfl, rfl, rfl⟩ ⟨rfl, rfl⟩ (by (refine Ent.imp ?_; repeat first | exact Imp.refl _ | exact Imp.nil _ | (apply Imp.pull; focus ((repeat first | exact Del.head _ _ | apply Del.tail); done)) | (apply Imp.row; focus ((repeat first | exact Del.head _ _ | apply Del.tail); done)) | apply Imp.drop))

theorem u32_out (p b at_ : Nat) (v : Value) (bs : List UInt8) (ss : List Spn) (hbs : bs.length ≤ 1048576) (hlen : ss.length ≤ 1048576) (hb : ∀ s ∈ ss, s.1 + s.2 ≤ 1048576) (ha : at_ < 4294967296) (h : bs.length < at_ + 4) :
    Sat Try.prog 78 [.pointer (some ⟨p, 0, none⟩), .int .u32 at_] [row 70 p [.slice (some ⟨b, 0, none⟩) bs.length bs.length, v], row 5 b (bs.map byteV), sl 110 2 v ss.length (spans ss)] (fun u L' => u = .tuple #[.int .u32 (0 : Nat), .int .i64 10] ∧ L' = [row 70 p [.slice (some ⟨b, 0, none⟩) bs.length bs.length, v], row 5 b (bs.map byteV), sl 110 2 v ss.length (spans ss)]) := by
  refine Sat.enter Try.func78 rfl Try.ntmps78 rfl (fun c R => ?_)
  try simp only [List.cons_append, List.nil_append]
  refine T.seq ?_
  refine T.reg ?_
  refine TO.p (DP.as (by conv => lhs; whnf)) ?_
  refine TO.p (DP.as (by conv => lhs; whnf)) ?_
  refine TO.nil ?_
  refine TQ.nn ?_
  refine T.seq ?_
  refine T.reg ?_
  refine TO.p (DP.mv (by conv => lhs; whnf)) ?_
  refine TO.p (DP.mv (by conv => lhs; whnf)) ?_
  refine TO.n (N.callF (number32_out p b at_ v bs ss 4 hbs hlen hb ha (by omega) h) Try.call86 ⟨rfl, rfl, rfl, trivial⟩ (by (repeat first | exact Pick.nil _ | (apply Pick.cons; focus ((repeat first | exact Del.head _ _ | apply Del.tail); done))))) ?_
  rintro u8 _ ⟨_, ⟨rfl, rfl⟩, rfl⟩
  try simp only [List.cons_append, List.nil_append]
  refine TO.p (DP.ex rfl rfl) ?_
  refine TO.p (DP.ex rfl rfl) ?_
  refine TO.p (DP.as (by conv => lhs; whnf)) ?_
  refine TO.p (DP.as (by conv => lhs; whnf)) ?_
  refine TO.nil ?_
  refine TQ.nn ?_
  refine T.ret ?_
  refine TQ.ret (vs := [.int .u32 (0 : Nat), .int .i64 10]) (L' := [_, _, _]) rfl ⟨rfl, rfl, rfl⟩ ⟨rfl, rfl⟩ (by (refine Ent.imp ?_; repeat first | exact Imp.refl _ | exact Imp.nil _ | (apply Imp.pull; focus ((repeat first | exact Del.head _ _ | apply Del.tail); done)) | (apply Imp.row; focus ((repeat first | exact Del.head _ _ | apply Del.tail); done)) | apply Imp.drop))

theorem u32_nil (at_ : Nat) :
    Sat Try.prog 78 [.pointer none, .int .u32 at_] [] (fun u L' => u = .tuple #[.int .u32 (0 : Nat), .int .i64 1] ∧ L' = []) := by
  refine Sat.enter Try.func78 rfl Try.ntmps78 rfl (fun c R => ?_)
  try simp only [List.cons_append, List.nil_append]
  refine T.seq ?_
  refine T.reg ?_
  refine TO.p (DP.as (by conv => lhs; whnf)) ?_
  refine TO.p (DP.as (by conv => lhs; whnf)) ?_
  refine TO.nil ?_
  refine TQ.nn ?_
  refine T.seq ?_
  refine T.reg ?_
  refine TO.p (DP.mv (by conv => lhs; whnf)) ?_
  refine TO.p (DP.mv (by conv => lhs; whnf)) ?_
  refine TO.n (N.callF (number32_nil at_ 4) Try.call86 ⟨rfl, rfl, rfl, trivial⟩ (by (repeat first | exact Pick.nil _ | (apply Pick.cons; focus ((repeat first | exact Del.head _ _ | apply Del.tail); done))))) ?_
  rintro u8 _ ⟨_, ⟨rfl, rfl⟩, rfl⟩
  try simp only [List.cons_append, List.nil_append]
  refine TO.p (DP.ex rfl rfl) ?_
  refine TO.p (DP.ex rfl rfl) ?_
  refine TO.p (DP.as (by conv => lhs; whnf)) ?_
  refine TO.p (DP.as (by conv => lhs; whnf)) ?_
  refine TO.nil ?_
  refine TQ.nn ?_
  refine T.ret ?_
  refine TQ.ret (vs := [.int .u32 (0 : Nat), .int .i64 1]) (L' := []) rfl ⟨rfl, rfl, rfl⟩ ⟨rfl, rfl⟩ (by (refine Ent.imp ?_; repeat first | exact Imp.refl _ | exact Imp.nil _ | (apply Imp.pull; focus ((repeat first | exact Del.head _ _ | apply Del.tail); done)) | (apply Imp.row; focus ((repeat first | exact Del.head _ _ | apply Del.tail); done)) | apply Imp.drop))

theorem bytes32_spec (x n : Nat) (hx : x < 4294967296) (hn : n ≤ 8) (hn0 : 0 < n) :
    Sat Try.prog 82 [.int .u32 x, .int .i64 n] [] (fun u L' => u = str (leB x n) ∧ L' = []) := by
  refine Sat.enter Try.func82 rfl Try.ntmps82 rfl (fun c R => ?_)
  try simp only [List.cons_append, List.nil_append]
  refine T.seq ?_
  refine T.reg ?_
  refine TO.p (DP.as (by conv => lhs; whnf)) ?_
  refine TO.nil ?_
  refine TQ.nn ?_
  refine T.seq ?_
  refine T.reg ?_
  refine TO.p (DP.mv (by conv => lhs; whnf)) ?_
  refine TO.n (N.mk rfl rfl Try.underlying59 sz5 by5 zr5 rfl rfl (by omega)) ?_
  rintro _ _ ⟨b8, rfl, rfl⟩
  refine TO.p (DP.as (by conv => lhs; whnf)) ?_
  refine TO.nil ?_
  refine TQ.nn ?_
  refine T.seq ?_
  refine T.seq ?_
  have hfl : (List.replicate n [Value.int .u8 0]).flatten = (leB x 0 ++ List.replicate (n - 0) 0).map byteV := by rw [← leB_zero]; simp
  rw [hfl]
  refine T.reg ?_
  refine TO.p (DP.mv (by conv => lhs; whnf)) ?_
  refine TO.p (DP.lenS rfl Try.underlying59) ?_
  refine TO.p (DP.mv (by conv => lhs; whnf)) ?_
  refine TO.nil ?_
  refine TQ.nn ?_
  refine T.block ?_
  refine T.loop (S := Nat) 0 (fun i => [(0, .int .u32 x), (5, .slice (some ⟨b8, 0, none⟩) n n), (10, .int .i64 (n : Nat)), (11, .int .i64 (i : Nat))]) (fun i => row 5 b8 ((leB x i ++ List.replicate (n - i) 0).map byteV) :: R) (fun i => i ≤ n) (fun i => n - i) ?_ ?_ ?_ ?_
  · (repeat first | exact trivial | refine ⟨rfl, ?_⟩)
  · (first | trivial | omega | simp)
  · exact Ent.refl _ _
  rintro i g hI
  refine T.seq ?_
  refine T.reg ?_
  refine TO.p (DP.lss rfl rfl) ?_
  refine TO.nil ?_
  refine TQ.nn ?_
  refine T.seq ?_
  refine T.condD rfl (fun hc0 => ?_) (fun hc0 => ?_)
  · refine T.skip ?_
    refine TQ.nn ?_
    refine T.seq ?_
    refine T.block ?_
    refine T.seq ?_
    refine T.reg ?_
    refine TO.p (DP.mv (by conv => lhs; whnf)) ?_
    refine TO.p (DP.as (by conv => lhs; whnf)) ?_
    refine TO.nil ?_
    refine TQ.nn ?_
    refine T.reg ?_
    refine TO.p (DP.mv (by conv => lhs; whnf)) ?_
    refine TO.p (DP.mv (by conv => lhs; whnf)) ?_
    refine TO.p (DP.mv (by conv => lhs; whnf)) ?_
    refine TO.p (DP.mv (by conv => lhs; whnf)) ?_
    refine TO.p (DP.mul (a := 8) rfl rfl (l := 9223372036854775808) rfl (by omega)) ?_
    refine TO.p (DP.shr (b := 8 * i) rfl rfl (l := 4294967296) rfl (by omega)) ?_
    refine TO.p (DP.cvW rfl is30 Try.underlying5 rfl (l := 256) rfl) ?_
    refine TO.p (DP.to (v' := .pointer (some ⟨b8, i, none⟩)) (DP.ias rfl rfl Try.underlying59 sz5 (by omega)) (by simp)) ?_
    refine TO.n0 (N.st rfl (by conv => lhs; whnf) sz5 (by (repeat first | exact Put.head _ _ _ | apply Put.tail)) (by simp [leB_len]; omega) (by rfl)) ?_
    rintro _ _ ⟨rfl, rfl⟩
    refine TO.nil ?_
    refine TQ.bn ?_
    refine TQ.nn ?_
    refine T.reg ?_
    refine TO.p (DP.add (b := 1) rfl rfl (l := 9223372036854775808) rfl (by omega)) ?_
    refine TO.p (DP.mv (by conv => lhs; whnf)) ?_
    refine TO.nil ?_
    refine TQ.round (i + 1) rfl ?_ ?_ ?_ ?_
    · (repeat first | exact trivial | refine ⟨rfl, ?_⟩)
    · omega
    · omega
    · (rw [← leB_set (x := x) (n := n) (i := i) (by omega)]; exact Ent.refl _ _)
  · obtain rfl : n = i := by omega
    rw [leB_full]
    refine T.exit ?_
    refine TQ.ne ?_
    refine TQ.le ?_
    refine TQ.be ?_
    refine TQ.nn ?_
    refine T.seq ?_
    refine T.reg ?_
    refine TO.p (DP.mv (by conv => lhs; whnf)) ?_
    refine TO.d (D.cbs (l := leB x n) (A := row 5 b8 ((leB x n).map byteV)) rfl Try.underlying59 Try.underlying9 Try.underlying5 (leB_len _ _) (by (repeat first | exact LMem.head _ _ | apply LMem.tail)) (ReadsN.row (by simp))) ?_
    refine TO.p (DP.as (by conv => lhs; whnf)) ?_
    refine TO.nil ?_
    refine TQ.nn ?_
    refine T.ret ?_
    refine TQ.ret (vs := [str (leB x n)]) (L' := []) rfl ⟨rfl, rfl⟩ ⟨rfl, rfl⟩ (by (refine Ent.imp ?_; repeat first | exact Imp.refl _ | exact Imp.nil _ | (apply Imp.pull; focus ((repeat first | exact Del.head _ _ | apply Del.tail); done)) | (apply Imp.row; focus ((repeat first | exact Del.head _ _ | apply Del.tail); done)) | apply Imp.drop))

theorem put32_ok (p b at_ : Nat) (v : Value) (bs : List UInt8) (ss : List Spn) (x : Nat) (hx : x < 4294967296) (hbs : bs.length ≤ 1048576) (hlen : ss.length ≤ 1048576) (hb : ∀ s ∈ ss, s.1 + s.2 ≤ 1048576) (ha : at_ < 4294967296) (h : at_ + 4 ≤ bs.length) (hs : sharedN ss at_ 4 = 0) :
    Sat Try.prog 71 [.pointer (some ⟨p, 0, none⟩), .int .u32 at_, .int .u32 x] [row 70 p [.slice (some ⟨b, 0, none⟩) bs.length bs.length, v], row 5 b (bs.map byteV), sl 110 2 v ss.length (spans ss)] (fun u L' => u = .int .i64 0 ∧ L' = [row 70 p [.slice (some ⟨b, 0, none⟩) bs.length bs.length, v], row 5 b ((putB bs at_ (leB x 4)).map byteV), sl 110 2 v ss.length (spans ss)]) := by
  refine Sat.enter Try.func71 rfl Try.ntmps71 rfl (fun c R => ?_)
  try simp only [List.cons_append, List.nil_append]
  refine T.seq ?_
  refine T.reg ?_
  refine TO.p (DP.as (by conv => lhs; whnf)) ?_
  refine TO.nil ?_
  refine TQ.nn ?_
  refine T.seq ?_
  refine T.reg ?_
  refine TO.p (DP.mv (by conv => lhs; whnf)) ?_
  refine TO.p (DP.mv (by conv => lhs; whnf)) ?_
  refine TO.p (DP.mv (by conv => lhs; whnf)) ?_
  refine TO.n (N.callF (bytes32_spec x 4 hx (by omega) (by omega)) Try.call82 ⟨rfl, rfl, trivial⟩ (by (repeat first | exact Pick.nil _ | (apply Pick.cons; focus ((repeat first | exact Del.head _ _ | apply Del.tail); done))))) ?_
  rintro u10 _ ⟨_, ⟨rfl, rfl⟩, rfl⟩
  try simp only [List.cons_append, List.nil_append]
  refine TO.n (N.callF (write_ok p b at_ v bs ss (leB x 4) hbs hlen hb ha (by rw [leB_len]; exact h) (by rw [leB_len]; exact hs)) Try.call31 ⟨rfl, rfl, rfl, trivial⟩ (by (repeat first | exact Pick.nil _ | (apply Pick.cons; focus ((repeat first | exact Del.head _ _ | apply Del.tail); done))))) ?_
  rintro u11 _ ⟨_, ⟨rfl, rfl⟩, rfl⟩
  try simp only [List.cons_append, List.nil_append]
  refine TO.p (DP.as (by conv => lhs; whnf)) ?_
  refine TO.nil ?_
  refine TQ.nn ?_
  refine T.ret ?_
  refine TQ.ret (vs := [.int .i64 0]) (L' := [_, _, _]) rfl ⟨rfl, rfl⟩ ⟨rfl, rfl⟩ (by (refine Ent.imp ?_; repeat first | exact Imp.refl _ | exact Imp.nil _ | (apply Imp.pull; focus ((repeat first | exact Del.head _ _ | apply Del.tail); done)) | (apply Imp.row; focus ((repeat first | exact Del.head _ _ | apply Del.tail); done)) | apply Imp.drop))

theorem put32_bad (p b at_ : Nat) (v : Value) (bs : List UInt8) (ss : List Spn) (x : Nat) (hx : x < 4294967296) (hbs : bs.length ≤ 1048576) (hlen : ss.length ≤ 1048576) (hb : ∀ s ∈ ss, s.1 + s.2 ≤ 1048576) (ha : at_ < 4294967296) (h : at_ + 4 ≤ bs.length) (hs : 0 < sharedN ss at_ 4) :
    Sat Try.prog 71 [.pointer (some ⟨p, 0, none⟩), .int .u32 at_, .int .u32 x] [row 70 p [.slice (some ⟨b, 0, none⟩) bs.length bs.length, v], row 5 b (bs.map byteV), sl 110 2 v ss.length (spans ss)] (fun u L' => u = .int .i64 11 ∧ L' = [row 70 p [.slice (some ⟨b, 0, none⟩) bs.length bs.length, v], row 5 b (bs.map byteV), sl 110 2 v ss.length (spans ss)]) := by
  refine Sat.enter Try.func71 rfl Try.ntmps71 rfl (fun c R => ?_)
  try simp only [List.cons_append, List.nil_append]
  refine T.seq ?_
  refine T.reg ?_
  refine TO.p (DP.as (by conv => lhs; whnf)) ?_
  refine TO.nil ?_
  refine TQ.nn ?_
  refine T.seq ?_
  refine T.reg ?_
  refine TO.p (DP.mv (by conv => lhs; whnf)) ?_
  refine TO.p (DP.mv (by conv => lhs; whnf)) ?_
  refine TO.p (DP.mv (by conv => lhs; whnf)) ?_
  refine TO.n (N.callF (bytes32_spec x 4 hx (by omega) (by omega)) Try.call82 ⟨rfl, rfl, trivial⟩ (by (repeat first | exact Pick.nil _ | (apply Pick.cons; focus ((repeat first | exact Del.head _ _ | apply Del.tail); done))))) ?_
  rintro u10 _ ⟨_, ⟨rfl, rfl⟩, rfl⟩
  try simp only [List.cons_append, List.nil_append]
  refine TO.n (N.callF (write_bad p b at_ v bs ss (leB x 4) hbs hlen hb ha (by rw [leB_len]; exact h) (by rw [leB_len]; exact hs)) Try.call31 ⟨rfl, rfl, rfl, trivial⟩ (by (repeat first | exact Pick.nil _ | (apply Pick.cons; focus ((repeat first | exact Del.head _ _ | apply Del.tail); done))))) ?_
  rintro u11 _ ⟨_, ⟨rfl, rfl⟩, rfl⟩
  try simp only [List.cons_append, List.nil_append]
  refine TO.p (DP.as (by conv => lhs; whnf)) ?_
  refine TO.nil ?_
  refine TQ.nn ?_
  refine T.ret ?_
  refine TQ.ret (vs := [.int .i64 11]) (L' := [_, _, _]) rfl ⟨rfl, rfl⟩ ⟨rfl, rfl⟩ (by (refine Ent.imp ?_; repeat first | exact Imp.refl _ | exact Imp.nil _ | (apply Imp.pull; focus ((repeat first | exact Del.head _ _ | apply Del.tail); done)) | (apply Imp.row; focus ((repeat first | exact Del.head _ _ | apply Del.tail); done)) | apply Imp.drop))

theorem put32_out (p b at_ : Nat) (v : Value) (bs : List UInt8) (ss : List Spn) (x : Nat) (hx : x < 4294967296) (hbs : bs.length ≤ 1048576) (hlen : ss.length ≤ 1048576) (hb : ∀ s ∈ ss, s.1 + s.2 ≤ 1048576) (ha : at_ < 4294967296) (h : bs.length < at_ + 4) :
    Sat Try.prog 71 [.pointer (some ⟨p, 0, none⟩), .int .u32 at_, .int .u32 x] [row 70 p [.slice (some ⟨b, 0, none⟩) bs.length bs.length, v], row 5 b (bs.map byteV), sl 110 2 v ss.length (spans ss)] (fun u L' => u = .int .i64 10 ∧ L' = [row 70 p [.slice (some ⟨b, 0, none⟩) bs.length bs.length, v], row 5 b (bs.map byteV), sl 110 2 v ss.length (spans ss)]) := by
  refine Sat.enter Try.func71 rfl Try.ntmps71 rfl (fun c R => ?_)
  try simp only [List.cons_append, List.nil_append]
  refine T.seq ?_
  refine T.reg ?_
  refine TO.p (DP.as (by conv => lhs; whnf)) ?_
  refine TO.nil ?_
  refine TQ.nn ?_
  refine T.seq ?_
  refine T.reg ?_
  refine TO.p (DP.mv (by conv => lhs; whnf)) ?_
  refine TO.p (DP.mv (by conv => lhs; whnf)) ?_
  refine TO.p (DP.mv (by conv => lhs; whnf)) ?_
  refine TO.n (N.callF (bytes32_spec x 4 hx (by omega) (by omega)) Try.call82 ⟨rfl, rfl, trivial⟩ (by (repeat first | exact Pick.nil _ | (apply Pick.cons; focus ((repeat first | exact Del.head _ _ | apply Del.tail); done))))) ?_
  rintro u10 _ ⟨_, ⟨rfl, rfl⟩, rfl⟩
  try simp only [List.cons_append, List.nil_append]
  refine TO.n (N.callF (write_out p b at_ v bs ss (leB x 4) hbs hlen hb ha (by rw [leB_len]; omega) (by rw [leB_len]; exact h)) Try.call31 ⟨rfl, rfl, rfl, trivial⟩ (by (repeat first | exact Pick.nil _ | (apply Pick.cons; focus ((repeat first | exact Del.head _ _ | apply Del.tail); done))))) ?_
  rintro u11 _ ⟨_, ⟨rfl, rfl⟩, rfl⟩
  try simp only [List.cons_append, List.nil_append]
  refine TO.p (DP.as (by conv => lhs; whnf)) ?_
  refine TO.nil ?_
  refine TQ.nn ?_
  refine T.ret ?_
  refine TQ.ret (vs := [.int .i64 10]) (L' := [_, _, _]) rfl ⟨rfl, rfl⟩ ⟨rfl, rfl⟩ (by (refine Ent.imp ?_; repeat first | exact Imp.refl _ | exact Imp.nil _ | (apply Imp.pull; focus ((repeat first | exact Del.head _ _ | apply Del.tail); done)) | (apply Imp.row; focus ((repeat first | exact Del.head _ _ | apply Del.tail); done)) | apply Imp.drop))

theorem put32_nil (at_ x : Nat) (hx : x < 4294967296) :
    Sat Try.prog 71 [.pointer none, .int .u32 at_, .int .u32 x] [] (fun u L' => u = .int .i64 1 ∧ L' = []) := by
  refine Sat.enter Try.func71 rfl Try.ntmps71 rfl (fun c R => ?_)
  try simp only [List.cons_append, List.nil_append]
  refine T.seq ?_
  refine T.reg ?_
  refine TO.p (DP.as (by conv => lhs; whnf)) ?_
  refine TO.nil ?_
  refine TQ.nn ?_
  refine T.seq ?_
  refine T.reg ?_
  refine TO.p (DP.mv (by conv => lhs; whnf)) ?_
  refine TO.p (DP.mv (by conv => lhs; whnf)) ?_
  refine TO.p (DP.mv (by conv => lhs; whnf)) ?_
  refine TO.n (N.callF (bytes32_spec x 4 hx (by omega) (by omega)) Try.call82 ⟨rfl, rfl, trivial⟩ (by (repeat first | exact Pick.nil _ | (apply Pick.cons; focus ((repeat first | exact Del.head _ _ | apply Del.tail); done))))) ?_
  rintro u10 _ ⟨_, ⟨rfl, rfl⟩, rfl⟩
  try simp only [List.cons_append, List.nil_append]
  refine TO.n (N.callF (write_nil at_ (leB x 4)) Try.call31 ⟨rfl, rfl, rfl, trivial⟩ (by (repeat first | exact Pick.nil _ | (apply Pick.cons; focus ((repeat first | exact Del.head _ _ | apply Del.tail); done))))) ?_
  rintro u11 _ ⟨_, ⟨rfl, rfl⟩, rfl⟩
  try simp only [List.cons_append, List.nil_append]
  refine TO.p (DP.as (by conv => lhs; whnf)) ?_
  refine TO.nil ?_
  refine TQ.nn ?_
  refine T.ret ?_
  refine TQ.ret (vs := [.int .i64 1]) (L' := []) rfl ⟨rfl, rfl⟩ ⟨rfl, rfl⟩ (by (refine Ent.imp ?_; repeat first | exact Imp.refl _ | exact Imp.nil _ | (apply Imp.pull; focus ((repeat first | exact Del.head _ _ | apply Del.tail); done)) | (apply Imp.row; focus ((repeat first | exact Del.head _ _ | apply Del.tail); done)) | apply Imp.drop))

theorem bytes64_spec (x n : Nat) (hx : x < 18446744073709551616) (hn : n ≤ 8) (hn0 : 0 < n) :
    Sat Try.prog 46 [.int .u64 x, .int .i64 n] [] (fun u L' => u = str (leB x n) ∧ L' = []) := by
  refine Sat.enter Try.func46 rfl Try.ntmps46 rfl (fun c R => ?_)
  try simp only [List.cons_append, List.nil_append]
  refine T.seq ?_
  refine T.reg ?_
  refine TO.p (DP.as (by conv => lhs; whnf)) ?_
  refine TO.nil ?_
  refine TQ.nn ?_
  refine T.seq ?_
  refine T.reg ?_
  refine TO.p (DP.mv (by conv => lhs; whnf)) ?_
  refine TO.n (N.mk rfl rfl Try.underlying59 sz5 by5 zr5 rfl rfl (by omega)) ?_
  rintro _ _ ⟨b8, rfl, rfl⟩
  refine TO.p (DP.as (by conv => lhs; whnf)) ?_
  refine TO.nil ?_
  refine TQ.nn ?_
  refine T.seq ?_
  refine T.seq ?_
  have hfl : (List.replicate n [Value.int .u8 0]).flatten = (leB x 0 ++ List.replicate (n - 0) 0).map byteV := by rw [← leB_zero]; simp
  rw [hfl]
  refine T.reg ?_
  refine TO.p (DP.mv (by conv => lhs; whnf)) ?_
  refine TO.p (DP.lenS rfl Try.underlying59) ?_
  refine TO.p (DP.mv (by conv => lhs; whnf)) ?_
  refine TO.nil ?_
  refine TQ.nn ?_
  refine T.block ?_
  refine T.loop (S := Nat) 0 (fun i => [(0, .int .u64 x), (5, .slice (some ⟨b8, 0, none⟩) n n), (10, .int .i64 (n : Nat)), (11, .int .i64 (i : Nat))]) (fun i => row 5 b8 ((leB x i ++ List.replicate (n - i) 0).map byteV) :: R) (fun i => i ≤ n) (fun i => n - i) ?_ ?_ ?_ ?_
  · (repeat first | exact trivial | refine ⟨rfl, ?_⟩)
  · (first | trivial | omega | simp)
  · exact Ent.refl _ _
  rintro i g hI
  refine T.seq ?_
  refine T.reg ?_
  refine TO.p (DP.lss rfl rfl) ?_
  refine TO.nil ?_
  refine TQ.nn ?_
  refine T.seq ?_
  refine T.condD rfl (fun hc0 => ?_) (fun hc0 => ?_)
  · refine T.skip ?_
    refine TQ.nn ?_
    refine T.seq ?_
    refine T.block ?_
    refine T.seq ?_
    refine T.reg ?_
    refine TO.p (DP.mv (by conv => lhs; whnf)) ?_
    refine TO.p (DP.as (by conv => lhs; whnf)) ?_
    refine TO.nil ?_
    refine TQ.nn ?_
    refine T.reg ?_
    refine TO.p (DP.mv (by conv => lhs; whnf)) ?_
    refine TO.p (DP.mv (by conv => lhs; whnf)) ?_
    refine TO.p (DP.mv (by conv => lhs; whnf)) ?_
    refine TO.p (DP.mv (by conv => lhs; whnf)) ?_
    refine TO.p (DP.mul (a := 8) rfl rfl (l := 9223372036854775808) rfl (by omega)) ?_
    refine TO.p (DP.shr (b := 8 * i) rfl rfl (l := 18446744073709551616) rfl (by omega)) ?_
    refine TO.p (DP.cvW rfl is63 Try.underlying5 rfl (l := 256) rfl) ?_
    refine TO.p (DP.to (v' := .pointer (some ⟨b8, i, none⟩)) (DP.ias rfl rfl Try.underlying59 sz5 (by omega)) (by simp)) ?_
    refine TO.n0 (N.st rfl (by conv => lhs; whnf) sz5 (by (repeat first | exact Put.head _ _ _ | apply Put.tail)) (by simp [leB_len]; omega) (by rfl)) ?_
    rintro _ _ ⟨rfl, rfl⟩
    refine TO.nil ?_
    refine TQ.bn ?_
    refine TQ.nn ?_
    refine T.reg ?_
    refine TO.p (DP.add (b := 1) rfl rfl (l := 9223372036854775808) rfl (by omega)) ?_
    refine TO.p (DP.mv (by conv => lhs; whnf)) ?_
    refine TO.nil ?_
    refine TQ.round (i + 1) rfl ?_ ?_ ?_ ?_
    · (repeat first | exact trivial | refine ⟨rfl, ?_⟩)
    · omega
    · omega
    · (rw [← leB_set (x := x) (n := n) (i := i) (by omega)]; exact Ent.refl _ _)
  · obtain rfl : n = i := by omega
    rw [leB_full]
    refine T.exit ?_
    refine TQ.ne ?_
    refine TQ.le ?_
    refine TQ.be ?_
    refine TQ.nn ?_
    refine T.seq ?_
    refine T.reg ?_
    refine TO.p (DP.mv (by conv => lhs; whnf)) ?_
    refine TO.d (D.cbs (l := leB x n) (A := row 5 b8 ((leB x n).map byteV)) rfl Try.underlying59 Try.underlying9 Try.underlying5 (leB_len _ _) (by (repeat first | exact LMem.head _ _ | apply LMem.tail)) (ReadsN.row (by simp))) ?_
    refine TO.p (DP.as (by conv => lhs; whnf)) ?_
    refine TO.nil ?_
    refine TQ.nn ?_
    refine T.ret ?_
    refine TQ.ret (vs := [str (leB x n)]) (L' := []) rfl ⟨rfl, rfl⟩ ⟨rfl, rfl⟩ (by (refine Ent.imp ?_; repeat first | exact Imp.refl _ | exact Imp.nil _ | (apply Imp.pull; focus ((repeat first | exact Del.head _ _ | apply Del.tail); done)) | (apply Imp.row; focus ((repeat first | exact Del.head _ _ | apply Del.tail); done)) | apply Imp.drop))

theorem put64_ok (p b at_ : Nat) (v : Value) (bs : List UInt8) (ss : List Spn) (x : Nat) (hx : x < 18446744073709551616) (hbs : bs.length ≤ 1048576) (hlen : ss.length ≤ 1048576) (hb : ∀ s ∈ ss, s.1 + s.2 ≤ 1048576) (ha : at_ < 4294967296) (h : at_ + 8 ≤ bs.length) (hs : sharedN ss at_ 8 = 0) :
    Sat Try.prog 30 [.pointer (some ⟨p, 0, none⟩), .int .u32 at_, .int .u64 x] [row 70 p [.slice (some ⟨b, 0, none⟩) bs.length bs.length, v], row 5 b (bs.map byteV), sl 110 2 v ss.length (spans ss)] (fun u L' => u = .int .i64 0 ∧ L' = [row 70 p [.slice (some ⟨b, 0, none⟩) bs.length bs.length, v], row 5 b ((putB bs at_ (leB x 8)).map byteV), sl 110 2 v ss.length (spans ss)]) := by
  refine Sat.enter Try.func30 rfl Try.ntmps30 rfl (fun c R => ?_)
  try simp only [List.cons_append, List.nil_append]
  refine T.seq ?_
  refine T.reg ?_
  refine TO.p (DP.as (by conv => lhs; whnf)) ?_
  refine TO.nil ?_
  refine TQ.nn ?_
  refine T.seq ?_
  refine T.reg ?_
  refine TO.p (DP.mv (by conv => lhs; whnf)) ?_
  refine TO.p (DP.mv (by conv => lhs; whnf)) ?_
  refine TO.p (DP.mv (by conv => lhs; whnf)) ?_
  refine TO.n (N.callF (bytes64_spec x 8 hx (by omega) (by omega)) Try.call46 ⟨rfl, rfl, trivial⟩ (by (repeat first | exact Pick.nil _ | (apply Pick.cons; focus ((repeat first | exact Del.head _ _ | apply Del.tail); done))))) ?_
  rintro u10 _ ⟨_, ⟨rfl, rfl⟩, rfl⟩
  try simp only [List.cons_append, List.nil_append]
  refine TO.n (N.callF (write_ok p b at_ v bs ss (leB x 8) hbs hlen hb ha (by rw [leB_len]; exact h) (by rw [leB_len]; exact hs)) Try.call31 ⟨rfl, rfl, rfl, trivial⟩ (by (repeat first | exact Pick.nil _ | (apply Pick.cons; focus ((repeat first | exact Del.head _ _ | apply Del.tail); done))))) ?_
  rintro u11 _ ⟨_, ⟨rfl, rfl⟩, rfl⟩
  try simp only [List.cons_append, List.nil_append]
  refine TO.p (DP.as (by conv => lhs; whnf)) ?_
  refine TO.nil ?_
  refine TQ.nn ?_
  refine T.ret ?_
  refine TQ.ret (vs := [.int .i64 0]) (L' := [_, _, _]) rfl ⟨rfl, rfl⟩ ⟨rfl, rfl⟩ (by (refine Ent.imp ?_; repeat first | exact Imp.refl _ | exact Imp.nil _ | (apply Imp.pull; focus ((repeat first | exact Del.head _ _ | apply Del.tail); done)) | (apply Imp.row; focus ((repeat first | exact Del.head _ _ | apply Del.tail); done)) | apply Imp.drop))

theorem put64_bad (p b at_ : Nat) (v : Value) (bs : List UInt8) (ss : List Spn) (x : Nat) (hx : x < 18446744073709551616) (hbs : bs.length ≤ 1048576) (hlen : ss.length ≤ 1048576) (hb : ∀ s ∈ ss, s.1 + s.2 ≤ 1048576) (ha : at_ < 4294967296) (h : at_ + 8 ≤ bs.length) (hs : 0 < sharedN ss at_ 8) :
    Sat Try.prog 30 [.pointer (some ⟨p, 0, none⟩), .int .u32 at_, .int .u64 x] [row 70 p [.slice (some ⟨b, 0, none⟩) bs.length bs.length, v], row 5 b (bs.map byteV), sl 110 2 v ss.length (spans ss)] (fun u L' => u = .int .i64 11 ∧ L' = [row 70 p [.slice (some ⟨b, 0, none⟩) bs.length bs.length, v], row 5 b (bs.map byteV), sl 110 2 v ss.length (spans ss)]) := by
  refine Sat.enter Try.func30 rfl Try.ntmps30 rfl (fun c R => ?_)
  try simp only [List.cons_append, List.nil_append]
  refine T.seq ?_
  refine T.reg ?_
  refine TO.p (DP.as (by conv => lhs; whnf)) ?_
  refine TO.nil ?_
  refine TQ.nn ?_
  refine T.seq ?_
  refine T.reg ?_
  refine TO.p (DP.mv (by conv => lhs; whnf)) ?_
  refine TO.p (DP.mv (by conv => lhs; whnf)) ?_
  refine TO.p (DP.mv (by conv => lhs; whnf)) ?_
  refine TO.n (N.callF (bytes64_spec x 8 hx (by omega) (by omega)) Try.call46 ⟨rfl, rfl, trivial⟩ (by (repeat first | exact Pick.nil _ | (apply Pick.cons; focus ((repeat first | exact Del.head _ _ | apply Del.tail); done))))) ?_
  rintro u10 _ ⟨_, ⟨rfl, rfl⟩, rfl⟩
  try simp only [List.cons_append, List.nil_append]
  refine TO.n (N.callF (write_bad p b at_ v bs ss (leB x 8) hbs hlen hb ha (by rw [leB_len]; exact h) (by rw [leB_len]; exact hs)) Try.call31 ⟨rfl, rfl, rfl, trivial⟩ (by (repeat first | exact Pick.nil _ | (apply Pick.cons; focus ((repeat first | exact Del.head _ _ | apply Del.tail); done))))) ?_
  rintro u11 _ ⟨_, ⟨rfl, rfl⟩, rfl⟩
  try simp only [List.cons_append, List.nil_append]
  refine TO.p (DP.as (by conv => lhs; whnf)) ?_
  refine TO.nil ?_
  refine TQ.nn ?_
  refine T.ret ?_
  refine TQ.ret (vs := [.int .i64 11]) (L' := [_, _, _]) rfl ⟨rfl, rfl⟩ ⟨rfl, rfl⟩ (by (refine Ent.imp ?_; repeat first | exact Imp.refl _ | exact Imp.nil _ | (apply Imp.pull; focus ((repeat first | exact Del.head _ _ | apply Del.tail); done)) | (apply Imp.row; focus ((repeat first | exact Del.head _ _ | apply Del.tail); done)) | apply Imp.drop))

theorem put64_out (p b at_ : Nat) (v : Value) (bs : List UInt8) (ss : List Spn) (x : Nat) (hx : x < 18446744073709551616) (hbs : bs.length ≤ 1048576) (hlen : ss.length ≤ 1048576) (hb : ∀ s ∈ ss, s.1 + s.2 ≤ 1048576) (ha : at_ < 4294967296) (h : bs.length < at_ + 8) :
    Sat Try.prog 30 [.pointer (some ⟨p, 0, none⟩), .int .u32 at_, .int .u64 x] [row 70 p [.slice (some ⟨b, 0, none⟩) bs.length bs.length, v], row 5 b (bs.map byteV), sl 110 2 v ss.length (spans ss)] (fun u L' => u = .int .i64 10 ∧ L' = [row 70 p [.slice (some ⟨b, 0, none⟩) bs.length bs.length, v], row 5 b (bs.map byteV), sl 110 2 v ss.length (spans ss)]) := by
  refine Sat.enter Try.func30 rfl Try.ntmps30 rfl (fun c R => ?_)
  try simp only [List.cons_append, List.nil_append]
  refine T.seq ?_
  refine T.reg ?_
  refine TO.p (DP.as (by conv => lhs; whnf)) ?_
  refine TO.nil ?_
  refine TQ.nn ?_
  refine T.seq ?_
  refine T.reg ?_
  refine TO.p (DP.mv (by conv => lhs; whnf)) ?_
  refine TO.p (DP.mv (by conv => lhs; whnf)) ?_
  refine TO.p (DP.mv (by conv => lhs; whnf)) ?_
  refine TO.n (N.callF (bytes64_spec x 8 hx (by omega) (by omega)) Try.call46 ⟨rfl, rfl, trivial⟩ (by (repeat first | exact Pick.nil _ | (apply Pick.cons; focus ((repeat first | exact Del.head _ _ | apply Del.tail); done))))) ?_
  rintro u10 _ ⟨_, ⟨rfl, rfl⟩, rfl⟩
  try simp only [List.cons_append, List.nil_append]
  refine TO.n (N.callF (write_out p b at_ v bs ss (leB x 8) hbs hlen hb ha (by rw [leB_len]; omega) (by rw [leB_len]; exact h)) Try.call31 ⟨rfl, rfl, rfl, trivial⟩ (by (repeat first | exact Pick.nil _ | (apply Pick.cons; focus ((repeat first | exact Del.head _ _ | apply Del.tail); done))))) ?_
  rintro u11 _ ⟨_, ⟨rfl, rfl⟩, rfl⟩
  try simp only [List.cons_append, List.nil_append]
  refine TO.p (DP.as (by conv => lhs; whnf)) ?_
  refine TO.nil ?_
  refine TQ.nn ?_
  refine T.ret ?_
  refine TQ.ret (vs := [.int .i64 10]) (L' := [_, _, _]) rfl ⟨rfl, rfl⟩ ⟨rfl, rfl⟩ (by (refine Ent.imp ?_; repeat first | exact Imp.refl _ | exact Imp.nil _ | (apply Imp.pull; focus ((repeat first | exact Del.head _ _ | apply Del.tail); done)) | (apply Imp.row; focus ((repeat first | exact Del.head _ _ | apply Del.tail); done)) | apply Imp.drop))

theorem put64_nil (at_ x : Nat) (hx : x < 18446744073709551616) :
    Sat Try.prog 30 [.pointer none, .int .u32 at_, .int .u64 x] [] (fun u L' => u = .int .i64 1 ∧ L' = []) := by
  refine Sat.enter Try.func30 rfl Try.ntmps30 rfl (fun c R => ?_)
  try simp only [List.cons_append, List.nil_append]
  refine T.seq ?_
  refine T.reg ?_
  refine TO.p (DP.as (by conv => lhs; whnf)) ?_
  refine TO.nil ?_
  refine TQ.nn ?_
  refine T.seq ?_
  refine T.reg ?_
  refine TO.p (DP.mv (by conv => lhs; whnf)) ?_
  refine TO.p (DP.mv (by conv => lhs; whnf)) ?_
  refine TO.p (DP.mv (by conv => lhs; whnf)) ?_
  refine TO.n (N.callF (bytes64_spec x 8 hx (by omega) (by omega)) Try.call46 ⟨rfl, rfl, trivial⟩ (by (repeat first | exact Pick.nil _ | (apply Pick.cons; focus ((repeat first | exact Del.head _ _ | apply Del.tail); done))))) ?_
  rintro u10 _ ⟨_, ⟨rfl, rfl⟩, rfl⟩
  try simp only [List.cons_append, List.nil_append]
  refine TO.n (N.callF (write_nil at_ (leB x 8)) Try.call31 ⟨rfl, rfl, rfl, trivial⟩ (by (repeat first | exact Pick.nil _ | (apply Pick.cons; focus ((repeat first | exact Del.head _ _ | apply Del.tail); done))))) ?_
  rintro u11 _ ⟨_, ⟨rfl, rfl⟩, rfl⟩
  try simp only [List.cons_append, List.nil_append]
  refine TO.p (DP.as (by conv => lhs; whnf)) ?_
  refine TO.nil ?_
  refine TQ.nn ?_
  refine T.ret ?_
  refine TQ.ret (vs := [.int .i64 1]) (L' := []) rfl ⟨rfl, rfl⟩ ⟨rfl, rfl⟩ (by (refine Ent.imp ?_; repeat first | exact Imp.refl _ | exact Imp.nil _ | (apply Imp.pull; focus ((repeat first | exact Del.head _ _ | apply Del.tail); done)) | (apply Imp.row; focus ((repeat first | exact Del.head _ _ | apply Del.tail); done)) | apply Imp.drop))
end Go.Proofs.Ytfgpnipnaaeafaa

