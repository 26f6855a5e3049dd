/- Lemmas for the proofs of this seat: no statement of the seat is claimed here. -/
import Derived.Test.YtpidkdkbgjnhlaaW14
set_option linter.all false
namespace Go.Proofs.Ytpidkdkbgjnhlaa
open Go Pw
set_option maxRecDepth 20000
set_option maxHeartbeats 4000000
def u32N (n : Int) : Nat := (n % 4294967296).toNat
theorem u32N_lt (n : Int) : u32N n < 4294967296 := by unfold u32N; omega
theorem wideN_pos (n : Int) : 0 < wideN n := by unfold wideN; split; omega; split <;> omega
theorem u32N_wrap (n : Int) : IntKind.u32.wrap n = (u32N n : Nat) := by
  unfold u32N; simp [IntKind.wrap, IntKind.bits, IntKind.signed]; omega
theorem pc94 : placesOf Try.prog 94 = some [(0, 1), (1, 1), (2, 1), (3, 1)] := by kernel_rfl
theorem pl31 : plainT Try.prog 31 = true := by kernel_rfl
theorem sz31 : Try.prog.cellsOf 31 = 0 + 1 := by kernel_rfl
theorem zr94 : Try.prog.zeroOf 94 = some (.agg #[.pointer none, .int .u32 0, .int .i64 0, .slice none 0 0]) := by kernel_rfl
theorem rnewpool_arg (r n b at_ : Nat) (V : Value) (s t : Int) (hp : s < 1 ∨ t < 1 ∨ 256 < t) :
    Sat Try.prog 27 [.pointer (some ⟨r, 0, none⟩), .int .u32 at_, .int .i64 s, .int .i64 t] [row 63 r [.slice (some ⟨b, 0, none⟩) n n, V]] (fun u L' => u = .tuple #[.pointer none, .int .i64 2] ∧ L' = [row 63 r [.slice (some ⟨b, 0, none⟩) n n, V]]) := by
  refine Sat.enter Try.func27 rfl Try.ntmps27 rfl (fun c R => ?_)
  try simp only [List.cons_append, List.nil_append]
  refine T.seq ?_
  refine T.reg ?_
  refine TO.p (DP.as (by conv => lhs; whnf)) ?_
  refine TO.p (DP.as (by conv => lhs; whnf)) ?_
  refine TO.nil ?_
  refine TQ.nn ?_
  refine T.seq ?_
  refine T.seq ?_
  refine T.reg ?_
  refine TO.p (DP.mv (by conv => lhs; whnf)) ?_
  refine TO.p (DP.lssI rfl rfl) ?_
  refine TO.pB (DP.mv (by conv => lhs; whnf)) (fun hg12 => ?_) (fun hg12 => ?_)
  · refine TO.off rfl rfl ?_
    refine TO.off rfl rfl ?_
    refine TO.p (DP.pkT rfl (by conv => lhs; whnf)) ?_
    refine TO.p (DP.mv (by conv => lhs; whnf)) ?_
    refine TO.off rfl rfl ?_
    refine TO.off rfl rfl ?_
    refine TO.p (DP.pkT rfl (by conv => lhs; whnf)) ?_
    refine TO.nil ?_
    refine TQ.nn ?_
    refine T.condT rfl ?_
    refine T.seq ?_
    refine T.reg ?_
    refine TO.p (DP.as (by conv => lhs; whnf)) ?_
    refine TO.p (DP.as (by conv => lhs; whnf)) ?_
    refine TO.nil ?_
    refine TQ.nn ?_
    refine T.ret ?_
    refine TQ.nr ?_
    refine TQ.ret (vs := [.pointer none, .int .i64 2]) (L' := [_]) rfl ⟨rfl, rfl, rfl⟩ ⟨rfl, rfl⟩ (by (refine Ent.imp ?_; repeat first | exact Imp.refl _ | exact Imp.nil _ | (apply Imp.pull; focus ((repeat first | exact Del.head _ _ | apply Del.tail); done)) | (apply Imp.row; focus ((repeat first | exact Del.head _ _ | apply Del.tail); done)) | apply Imp.drop))
  · refine TO.onP rfl (DP.mv (by conv => lhs; whnf)) ?_
    refine TO.onP rfl (DP.lssI rfl rfl) ?_
    refine TO.p (DP.pkF rfl (by conv => lhs; whnf)) ?_
    refine TO.pB (DP.mv (by conv => lhs; whnf)) (fun hg16 => ?_) (fun hg16 => ?_)
    · refine TO.off rfl rfl ?_
      refine TO.off rfl rfl ?_
      refine TO.p (DP.pkT rfl (by conv => lhs; whnf)) ?_
      refine TO.nil ?_
      refine TQ.nn ?_
      refine T.condT rfl ?_
      refine T.seq ?_
      refine T.reg ?_
      refine TO.p (DP.as (by conv => lhs; whnf)) ?_
      refine TO.p (DP.as (by conv => lhs; whnf)) ?_
      refine TO.nil ?_
      refine TQ.nn ?_
      refine T.ret ?_
      refine TQ.nr ?_
      refine TQ.ret (vs := [.pointer none, .int .i64 2]) (L' := [_]) rfl ⟨rfl, rfl, rfl⟩ ⟨rfl, rfl⟩ (by (refine Ent.imp ?_; repeat first | exact Imp.refl _ | exact Imp.nil _ | (apply Imp.pull; focus ((repeat first | exact Del.head _ _ | apply Del.tail); done)) | (apply Imp.row; focus ((repeat first | exact Del.head _ _ | apply Del.tail); done)) | apply Imp.drop))
    · refine TO.onP rfl (DP.mv (by conv => lhs; whnf)) ?_
      refine TO.onP rfl (DP.gtrI rfl rfl) ?_
      refine TO.p (DP.pkF rfl (by conv => lhs; whnf)) ?_
      refine TO.nil ?_
      refine TQ.nn ?_
      refine T.condD rfl (fun hc0 => ?_) (fun hc0 => ?_)
      · refine T.seq ?_
        refine T.reg ?_
        refine TO.p (DP.as (by conv => lhs; whnf)) ?_
        refine TO.p (DP.as (by conv => lhs; whnf)) ?_
        refine TO.nil ?_
        refine TQ.nn ?_
        refine T.ret ?_
        refine TQ.nr ?_
        refine TQ.ret (vs := [.pointer none, .int .i64 2]) (L' := [_]) rfl ⟨rfl, rfl, rfl⟩ ⟨rfl, rfl⟩ (by (refine Ent.imp ?_; repeat first | exact Imp.refl _ | exact Imp.nil _ | (apply Imp.pull; focus ((repeat first | exact Del.head _ _ | apply Del.tail); done)) | (apply Imp.row; focus ((repeat first | exact Del.head _ _ | apply Del.tail); done)) | apply Imp.drop))
      · exact absurd hp (by omega)

theorem rnewpool_big (r n b at_ : Nat) (V : Value) (s t : Int) (h1 : 1 ≤ s) (h2 : 1 ≤ t) (h3 : t ≤ 256) (hp : (n : Int) < s) :
    Sat Try.prog 27 [.pointer (some ⟨r, 0, none⟩), .int .u32 at_, .int .i64 s, .int .i64 t] [row 63 r [.slice (some ⟨b, 0, none⟩) n n, V]] (fun u L' => u = .tuple #[.pointer none, .int .i64 10] ∧ L' = [row 63 r [.slice (some ⟨b, 0, none⟩) n n, V]]) := by
  refine Sat.enter Try.func27 rfl Try.ntmps27 rfl (fun c R => ?_)
  try simp only [List.cons_append, List.nil_append]
  refine T.seq ?_
  refine T.reg ?_
  refine TO.p (DP.as (by conv => lhs; whnf)) ?_
  refine TO.p (DP.as (by conv => lhs; whnf)) ?_
  refine TO.nil ?_
  refine TQ.nn ?_
  refine T.seq ?_
  refine T.seq ?_
  refine T.reg ?_
  refine TO.p (DP.mv (by conv => lhs; whnf)) ?_
  refine TO.p (DP.lssI rfl rfl) ?_
  refine TO.pB (DP.mv (by conv => lhs; whnf)) (fun hg12 => ?_) (fun hg12 => ?_)
  · exact absurd hg12 (by omega)
  · refine TO.onP rfl (DP.mv (by conv => lhs; whnf)) ?_
    refine TO.onP rfl (DP.lssI rfl rfl) ?_
    refine TO.p (DP.pkF rfl (by conv => lhs; whnf)) ?_
    refine TO.pB (DP.mv (by conv => lhs; whnf)) (fun hg16 => ?_) (fun hg16 => ?_)
    · exact absurd hg16 (by omega)
    · refine TO.onP rfl (DP.mv (by conv => lhs; whnf)) ?_
      refine TO.onP rfl (DP.gtrI rfl rfl) ?_
      refine TO.p (DP.pkF rfl (by conv => lhs; whnf)) ?_
      refine TO.nil ?_
      refine TQ.nn ?_
      refine T.condD rfl (fun hc0 => ?_) (fun hc0 => ?_)
      · exact absurd hc0 (by omega)
      · refine T.skip ?_
        refine TQ.nn ?_
        refine T.seq ?_
        refine T.seq ?_
        refine T.reg ?_
        refine TO.p (DP.mv (by conv => lhs; whnf)) ?_
        refine TO.p (DP.mv (by conv => lhs; whnf)) ?_
        refine TO.p (DP.nck rfl) ?_
        refine TO.p (DP.fa 0 rfl Try.underlying63 rfl rfl sz49) ?_
        refine TO.d (D.ldR rfl pl49 (by (repeat first | exact LMem.head _ _ | apply LMem.tail)) (by rfl)) ?_
        refine TO.p (DP.lenS rfl Try.underlying49) ?_
        refine TO.p (DP.gtrI rfl rfl) ?_
        refine TO.pB (DP.mv (by conv => lhs; whnf)) (fun hg27 => ?_) (fun hg27 => ?_)
        · refine TO.off rfl rfl ?_
          refine TO.off rfl rfl ?_
          refine TO.off rfl rfl ?_
          refine TO.off rfl rfl ?_
          refine TO.off rfl rfl ?_
          refine TO.off rfl rfl ?_
          refine TO.off rfl rfl ?_
          refine TO.p (DP.pkT rfl (by conv => lhs; whnf)) ?_
          refine TO.nil ?_
          refine TQ.nn ?_
          refine T.condT rfl ?_
          refine T.seq ?_
          refine T.reg ?_
          refine TO.p (DP.as (by conv => lhs; whnf)) ?_
          refine TO.p (DP.as (by conv => lhs; whnf)) ?_
          refine TO.nil ?_
          refine TQ.nn ?_
          refine T.ret ?_
          refine TQ.nr ?_
          refine TQ.ret (vs := [.pointer none, .int .i64 10]) (L' := [_]) rfl ⟨rfl, rfl, rfl⟩ ⟨rfl, rfl⟩ (by (refine Ent.imp ?_; repeat first | exact Imp.refl _ | exact Imp.nil _ | (apply Imp.pull; focus ((repeat first | exact Del.head _ _ | apply Del.tail); done)) | (apply Imp.row; focus ((repeat first | exact Del.head _ _ | apply Del.tail); done)) | apply Imp.drop))
        · exact absurd hp hg27

theorem rnewpool_out (r n b at_ s t : Nat) (V : Value) (hn : n ≤ 1048576) (ha : at_ < 4294967296) (h1 : 1 ≤ s) (h2 : 1 ≤ t) (h3 : t ≤ 256) (h5 : s ≤ 1048576) (h4 : s ≤ n) (h : n < at_ + s * t) :
    Sat Try.prog 27 [.pointer (some ⟨r, 0, none⟩), .int .u32 at_, .int .i64 s, .int .i64 t] [row 63 r [.slice (some ⟨b, 0, none⟩) n n, V]] (fun u L' => u = .tuple #[.pointer none, .int .i64 10] ∧ L' = [row 63 r [.slice (some ⟨b, 0, none⟩) n n, V]]) := by
  refine Sat.enter Try.func27 rfl Try.ntmps27 rfl (fun c R => ?_)
  try simp only [List.cons_append, List.nil_append]
  have hst := Nat.mul_le_mul h5 h3
  refine T.seq ?_
  refine T.reg ?_
  refine TO.p (DP.as (by conv => lhs; whnf)) ?_
  refine TO.p (DP.as (by conv => lhs; whnf)) ?_
  refine TO.nil ?_
  refine TQ.nn ?_
  refine T.seq ?_
  refine T.seq ?_
  refine T.reg ?_
  refine TO.p (DP.mv (by conv => lhs; whnf)) ?_
  refine TO.p (DP.lss (b := 1) rfl rfl) ?_
  refine TO.pB (DP.mv (by conv => lhs; whnf)) (fun hg12 => ?_) (fun hg12 => ?_)
  · exact absurd hg12 (by omega)
  · refine TO.onP rfl (DP.mv (by conv => lhs; whnf)) ?_
    refine TO.onP rfl (DP.lss (b := 1) rfl rfl) ?_
    refine TO.p (DP.pkF rfl (by conv => lhs; whnf)) ?_
    refine TO.pB (DP.mv (by conv => lhs; whnf)) (fun hg16 => ?_) (fun hg16 => ?_)
    · exact absurd hg16 (by omega)
    · refine TO.onP rfl (DP.mv (by conv => lhs; whnf)) ?_
      refine TO.onP rfl (DP.gtr (b := 256) rfl rfl) ?_
      refine TO.p (DP.pkF rfl (by conv => lhs; whnf)) ?_
      refine TO.nil ?_
      refine TQ.nn ?_
      refine T.condD rfl (fun hc0 => ?_) (fun hc0 => ?_)
      · exact absurd hc0 (by omega)
      · refine T.skip ?_
        refine TQ.nn ?_
        refine T.seq ?_
        refine T.seq ?_
        refine T.reg ?_
        refine TO.p (DP.mv (by conv => lhs; whnf)) ?_
        refine TO.p (DP.mv (by conv => lhs; whnf)) ?_
        refine TO.p (DP.nck rfl) ?_
        refine TO.p (DP.fa 0 rfl Try.underlying63 rfl rfl sz49) ?_
        refine TO.d (D.ldR rfl pl49 (by (repeat first | exact LMem.head _ _ | apply LMem.tail)) (by rfl)) ?_
        refine TO.p (DP.lenS rfl Try.underlying49) ?_
        refine TO.p (DP.gtr rfl rfl) ?_
        refine TO.pB (DP.mv (by conv => lhs; whnf)) (fun hg27 => ?_) (fun hg27 => ?_)
        · exact absurd hg27 (by omega)
        · refine TO.onP rfl (DP.mv (by conv => lhs; whnf)) ?_
          refine TO.onP rfl (DP.mv (by conv => lhs; whnf)) ?_
          refine TO.onP rfl (DP.mv (by conv => lhs; whnf)) ?_
          refine TO.onP rfl (DP.mv (by conv => lhs; whnf)) ?_
          refine TO.onP rfl (DP.mul rfl rfl (l := 9223372036854775808) rfl (by omega)) ?_
          refine TO.on rfl (N.callF (rin_no r b n at_ (s * t : Nat) V hn ha (.inr (by omega))) Try.call53 ⟨rfl, rfl, rfl, trivial⟩ (by (repeat first | exact Pick.nil _ | (apply Pick.cons; focus ((repeat first | exact Del.head _ _ | apply Del.tail); done))))) ?_
          rintro u33 _ ⟨_, ⟨rfl, rfl⟩, rfl⟩
          try simp only [List.cons_append, List.nil_append]
          refine TO.onP rfl (DP.not rfl) ?_
          refine TO.p (DP.pkF rfl (by conv => lhs; whnf)) ?_
          refine TO.nil ?_
          refine TQ.nn ?_
          refine T.condT rfl ?_
          refine T.seq ?_
          refine T.reg ?_
          refine TO.p (DP.as (by conv => lhs; whnf)) ?_
          refine TO.p (DP.as (by conv => lhs; whnf)) ?_
          refine TO.nil ?_
          refine TQ.nn ?_
          refine T.ret ?_
          refine TQ.nr ?_
          refine TQ.ret (vs := [.pointer none, .int .i64 10]) (L' := [_]) rfl ⟨rfl, rfl, rfl⟩ ⟨rfl, rfl⟩ (by (refine Ent.imp ?_; repeat first | exact Imp.refl _ | exact Imp.nil _ | (apply Imp.pull; focus ((repeat first | exact Del.head _ _ | apply Del.tail); done)) | (apply Imp.row; focus ((repeat first | exact Del.head _ _ | apply Del.tail); done)) | apply Imp.drop))

theorem rnewpool_ok (r n b at_ s t : Nat) (V : Value) (hn : n ≤ 1048576) (ha : at_ < 4294967296) (h1 : 1 ≤ s) (h2 : 1 ≤ t) (h3 : t ≤ 256) (h5 : s ≤ 1048576) (h4 : s ≤ n) (h : at_ + s * t ≤ n) :
    Sat Try.prog 27 [.pointer (some ⟨r, 0, none⟩), .int .u32 at_, .int .i64 s, .int .i64 t] [row 63 r [.slice (some ⟨b, 0, none⟩) n n, V]] (fun u L' => ∃ q wb, u = .tuple #[.pointer (some ⟨q, 0, none⟩), .int .i64 0] ∧ L' = [row 94 q [.pointer (some ⟨r, 0, none⟩), .int .u32 at_, .int .i64 s, .slice (some ⟨wb, 0, none⟩) t t], row 5 wb ((List.replicate t (0 : UInt8)).map byteV), row 63 r [.slice (some ⟨b, 0, none⟩) n n, V]]) := by
  refine Sat.enter Try.func27 rfl Try.ntmps27 rfl (fun c R => ?_)
  try simp only [List.cons_append, List.nil_append]
  have hst := Nat.mul_le_mul h5 h3
  refine T.seq ?_
  refine T.reg ?_
  refine TO.p (DP.as (by conv => lhs; whnf)) ?_
  refine TO.p (DP.as (by conv => lhs; whnf)) ?_
  refine TO.nil ?_
  refine TQ.nn ?_
  refine T.seq ?_
  refine T.seq ?_
  refine T.reg ?_
  refine TO.p (DP.mv (by conv => lhs; whnf)) ?_
  refine TO.p (DP.lss (b := 1) rfl rfl) ?_
  refine TO.pB (DP.mv (by conv => lhs; whnf)) (fun hg12 => ?_) (fun hg12 => ?_)
  · exact absurd hg12 (by omega)
  · refine TO.onP rfl (DP.mv (by conv => lhs; whnf)) ?_
    refine TO.onP rfl (DP.lss (b := 1) rfl rfl) ?_
    refine TO.p (DP.pkF rfl (by conv => lhs; whnf)) ?_
    refine TO.pB (DP.mv (by conv => lhs; whnf)) (fun hg16 => ?_) (fun hg16 => ?_)
    · exact absurd hg16 (by omega)
    · refine TO.onP rfl (DP.mv (by conv => lhs; whnf)) ?_
      refine TO.onP rfl (DP.gtr (b := 256) rfl rfl) ?_
      refine TO.p (DP.pkF rfl (by conv => lhs; whnf)) ?_
      refine TO.nil ?_
      refine TQ.nn ?_
      refine T.condD rfl (fun hc0 => ?_) (fun hc0 => ?_)
      · exact absurd hc0 (by omega)
      · refine T.skip ?_
        refine TQ.nn ?_
        refine T.seq ?_
        refine T.seq ?_
        refine T.reg ?_
        refine TO.p (DP.mv (by conv => lhs; whnf)) ?_
        refine TO.p (DP.mv (by conv => lhs; whnf)) ?_
        refine TO.p (DP.nck rfl) ?_
        refine TO.p (DP.fa 0 rfl Try.underlying63 rfl rfl sz49) ?_
        refine TO.d (D.ldR rfl pl49 (by (repeat first | exact LMem.head _ _ | apply LMem.tail)) (by rfl)) ?_
        refine TO.p (DP.lenS rfl Try.underlying49) ?_
        refine TO.p (DP.gtr rfl rfl) ?_
        refine TO.pB (DP.mv (by conv => lhs; whnf)) (fun hg27 => ?_) (fun hg27 => ?_)
        · exact absurd hg27 (by omega)
        · refine TO.onP rfl (DP.mv (by conv => lhs; whnf)) ?_
          refine TO.onP rfl (DP.mv (by conv => lhs; whnf)) ?_
          refine TO.onP rfl (DP.mv (by conv => lhs; whnf)) ?_
          refine TO.onP rfl (DP.mv (by conv => lhs; whnf)) ?_
          refine TO.onP rfl (DP.mul rfl rfl (l := 9223372036854775808) rfl (by omega)) ?_
          refine TO.on rfl (N.callF (rin_yes r b n at_ (s * t) V hn ha h) Try.call53 ⟨rfl, rfl, rfl, trivial⟩ (by (repeat first | exact Pick.nil _ | (apply Pick.cons; focus ((repeat first | exact Del.head _ _ | apply Del.tail); done))))) ?_
          rintro u33 _ ⟨_, ⟨rfl, rfl⟩, rfl⟩
          try simp only [List.cons_append, List.nil_append]
          refine TO.onP rfl (DP.not rfl) ?_
          refine TO.p (DP.pkF rfl (by conv => lhs; whnf)) ?_
          refine TO.nil ?_
          refine TQ.nn ?_
          refine T.condF rfl ?_
          refine T.skip ?_
          refine TQ.nn ?_
          refine T.seq ?_
          refine T.reg ?_
          refine TO.p (DP.mv (by conv => lhs; whnf)) ?_
          refine TO.p (DP.mv (by conv => lhs; whnf)) ?_
          refine TO.p (DP.mv (by conv => lhs; whnf)) ?_
          refine TO.p (DP.mv (by conv => lhs; whnf)) ?_
          refine TO.n (N.mk rfl rfl Try.underlying49 sz5 by5 zr5 rfl rfl (by omega)) ?_
          rintro _ _ ⟨b40, rfl, rfl⟩
          have hfl : (List.replicate t [Value.int .u8 0]).flatten = (List.replicate t (0 : UInt8)).map byteV := by simp [byteV]
          rw [hfl]
          refine TO.p (DP.bdL (vs := [(0, _), (1, _), (2, _), (3, _)]) (us := [_, _, _, _]) ⟨rfl, (by conv => lhs; whnf), rfl, (by conv => lhs; whnf), rfl, (by conv => lhs; whnf), rfl, (by conv => lhs; whnf), trivial⟩ pc94 zr94 rfl) ?_
          refine TO.n (N.bxA rfl) ?_
          rintro _ _ ⟨b42, rfl, rfl⟩
          refine TO.p (DP.as (by conv => lhs; whnf)) ?_
          refine TO.p (DP.as (by conv => lhs; whnf)) ?_
          refine TO.nil ?_
          refine TQ.nn ?_
          refine T.ret ?_
          refine TQ.ret (vs := [.pointer (some ⟨b42, 0, none⟩), .int .i64 0]) (L' := [_, _, row 63 r [.slice (some ⟨b, 0, none⟩) n n, V]]) rfl ⟨rfl, rfl, rfl⟩ ⟨b42, b40, rfl, rfl⟩ (by (refine Ent.imp ?_; repeat first | exact Imp.refl _ | exact Imp.nil _ | (apply Imp.pull; focus ((repeat first | exact Del.head _ _ | apply Del.tail); done)) | (apply Imp.row; focus ((repeat first | exact Del.head _ _ | apply Del.tail); done)) | apply Imp.drop))

theorem step_nil (p r : Nat) (bs : List UInt8) (lt : List Bool) (t : Stp) (ht : t.ok) :
    Sat Try.prog 28 [.pointer (some ⟨p, 0, none⟩), .pointer (some ⟨r, 0, none⟩), .pointer none, .pointer none, .agg #[.int .i64 t.dd, .int .u32 t.at_, .int .i64 t.n, .int .u64 t.x, str t.s]] [memA p bs lt, refA r bs lt] (fun u L' => u = .bool true ∧ ∃ bs' lt', bs'.length = bs.length ∧ L' = [memA p bs' lt', refA r bs' lt']) := by
  refine Sat.enter Try.func28 rfl Try.ntmps28 rfl (fun c R => ?_)
  try simp only [List.cons_append, List.nil_append]
  have hat := ht.at_
  have hn1 := ht.n1
  have hn2 := ht.n2
  have hxx := ht.x
  have hss := ht.s
  have hun := u32N_lt t.n
  refine T.seq ?_
  refine T.reg ?_
  refine TO.n (N.bxA rfl) ?_
  rintro _ _ ⟨b9, rfl, rfl⟩
  refine TO.p (DP.as (by conv => lhs; whnf)) ?_
  refine TO.nil ?_
  refine TQ.nn ?_
  refine T.seq ?_
  refine T.seq ?_
  refine T.reg ?_
  refine TO.p (DP.fa 0 rfl Try.underlying33 rfl rfl sz3) ?_
  refine TO.d (D.ldR rfl pl3 (by (repeat first | exact LMem.head _ _ | apply LMem.tail)) (by rfl)) ?_
  refine TO.nil ?_
  refine TQ.nn ?_
  refine T.block ?_
  refine T.seq ?_
  refine T.reg ?_
  refine TO.p (DP.eqlI rfl rfl) ?_
  refine TO.p (DP.as (by conv => lhs; whnf)) ?_
  refine TO.nil ?_
  refine TQ.nn ?_
  refine T.condD rfl (fun hc0 => ?_) (fun hc0 => ?_)
  · refine T.seq ?_
    refine T.reg ?_
    refine TO.p (DP.mv (by conv => lhs; whnf)) ?_
    refine TO.p (DP.fa 1 rfl Try.underlying33 rfl rfl sz30) ?_
    refine TO.d (D.ldR rfl pl30 (by (repeat first | exact LMem.head _ _ | apply LMem.tail)) (by rfl)) ?_
    refine TO.p (DP.fa 2 rfl Try.underlying33 rfl rfl sz3) ?_
    refine TO.d (D.ldR rfl pl3 (by (repeat first | exact LMem.head _ _ | apply LMem.tail)) (by rfl)) ?_
    refine TO.n (N.callF (readA p t.at_ t.n bs lt hat hn2) Try.call10 ⟨rfl, rfl, rfl, trivial⟩ (by (repeat first | exact Pick.nil _ | (apply Pick.cons; focus ((repeat first | exact Del.head _ _ | apply Del.tail); done))))) ?_
    rintro u33 _ ⟨_, ⟨rfl, rfl⟩, rfl⟩
    try simp only [List.cons_append, List.nil_append]
    refine TO.p (DP.mv (by conv => lhs; whnf)) ?_
    refine TO.p (DP.ex rfl rfl) ?_
    refine TO.p (DP.ex rfl rfl) ?_
    refine TO.p (DP.as (by conv => lhs; whnf)) ?_
    refine TO.p (DP.as (by conv => lhs; whnf)) ?_
    refine TO.nil ?_
    refine TQ.nn ?_
    refine T.seq ?_
    refine T.reg ?_
    refine TO.p (DP.mv (by conv => lhs; whnf)) ?_
    refine TO.p (DP.fa 1 rfl Try.underlying33 rfl rfl sz30) ?_
    refine TO.d (D.ldR rfl pl30 (by (repeat first | exact LMem.head _ _ | apply LMem.tail)) (by rfl)) ?_
    refine TO.p (DP.fa 2 rfl Try.underlying33 rfl rfl sz3) ?_
    refine TO.d (D.ldR rfl pl3 (by (repeat first | exact LMem.head _ _ | apply LMem.tail)) (by rfl)) ?_
    refine TO.n (N.callF (rreadA r t.at_ t.n bs lt hat hn2) Try.call54 ⟨rfl, rfl, rfl, trivial⟩ (by (repeat first | exact Pick.nil _ | (apply Pick.cons; focus ((repeat first | exact Del.head _ _ | apply Del.tail); done))))) ?_
    rintro u42 _ ⟨_, ⟨rfl, rfl⟩, rfl⟩
    try simp only [List.cons_append, List.nil_append]
    refine TO.p (DP.mv (by conv => lhs; whnf)) ?_
    refine TO.p (DP.ex rfl rfl) ?_
    refine TO.p (DP.ex rfl rfl) ?_
    refine TO.p (DP.as (by conv => lhs; whnf)) ?_
    refine TO.p (DP.as (by conv => lhs; whnf)) ?_
    refine TO.nil ?_
    refine TQ.nn ?_
    refine T.seq ?_
    refine T.reg ?_
    refine TO.p (DP.mv (by conv => lhs; whnf)) ?_
    refine TO.p (DP.mv (by conv => lhs; whnf)) ?_
    refine TO.p (DP.to (v' := .bool true) (DP.teql rfl rfl) (by simp)) ?_
    refine TO.p (DP.mv (by conv => lhs; whnf)) ?_
    refine TO.onP rfl (DP.mv (by conv => lhs; whnf)) ?_
    refine TO.onP rfl (DP.mv (by conv => lhs; whnf)) ?_
    refine TO.onP rfl (DP.to (v' := .bool true) (DP.eql rfl rfl) (by simp)) ?_
    refine TO.p (DP.pkT rfl (by conv => lhs; whnf)) ?_
    refine TO.p (DP.as (by conv => lhs; whnf)) ?_
    refine TO.nil ?_
    refine TQ.nn ?_
    refine T.ret ?_
    refine TQ.br ?_
    refine TQ.nr ?_
    refine TQ.ret (vs := [.bool true]) (L' := [memA p bs lt, refA r bs lt]) rfl ⟨rfl, rfl⟩ ⟨rfl, bs, lt, rfl, rfl⟩ (by (refine Ent.imp ?_; repeat first | exact Imp.refl _ | exact Imp.nil _ | (apply Imp.pull; focus ((repeat first | exact Del.head _ _ | apply Del.tail); done)) | (apply Imp.row; focus ((repeat first | exact Del.head _ _ | apply Del.tail); done)) | apply Imp.drop))
  · refine T.seq ?_
    refine T.reg ?_
    refine TO.p (DP.eqlI rfl rfl) ?_
    refine TO.p (DP.as (by conv => lhs; whnf)) ?_
    refine TO.nil ?_
    refine TQ.nn ?_
    refine T.condD rfl (fun hc1 => ?_) (fun hc1 => ?_)
    · refine T.seq ?_
      refine T.reg ?_
      refine TO.p (DP.mv (by conv => lhs; whnf)) ?_
      refine TO.p (DP.fa 1 rfl Try.underlying33 rfl rfl sz30) ?_
      refine TO.d (D.ldR rfl pl30 (by (repeat first | exact LMem.head _ _ | apply LMem.tail)) (by rfl)) ?_
      refine TO.p (DP.fa 2 rfl Try.underlying33 rfl rfl sz3) ?_
      refine TO.d (D.ldR rfl pl3 (by (repeat first | exact LMem.head _ _ | apply LMem.tail)) (by rfl)) ?_
      refine TO.n (N.callF (number_spec p t.at_ t.n bs lt hat) Try.call55 ⟨rfl, rfl, rfl, trivial⟩ (by (repeat first | exact Pick.nil _ | (apply Pick.cons; focus ((repeat first | exact Del.head _ _ | apply Del.tail); done))))) ?_
      rintro u61 _ ⟨_, ⟨rfl, rfl⟩, rfl⟩
      try simp only [List.cons_append, List.nil_append]
      refine TO.p (DP.mv (by conv => lhs; whnf)) ?_
      refine TO.p (DP.ex rfl rfl) ?_
      refine TO.p (DP.ex rfl rfl) ?_
      refine TO.p (DP.as (by conv => lhs; whnf)) ?_
      refine TO.p (DP.as (by conv => lhs; whnf)) ?_
      refine TO.nil ?_
      refine TQ.nn ?_
      refine T.seq ?_
      refine T.draw ([row 33 b9 [.int .i64 t.dd, .int .u32 t.at_, .int .i64 t.n, .int .u64 t.x, str t.s]]) [6] mixed (by repeat first | exact Calm.rt | apply Calm.t | apply Calm.b | apply Calm.l | apply Calm.ct) ?_
      refine TR.p 0 rfl (by kernel_rfl) (DP.mv (by conv => lhs; whnf)) ?_
      refine TR.p 1 rfl (by kernel_rfl) (DP.fa 1 rfl Try.underlying33 rfl rfl sz30) ?_
      refine TR.d 2 rfl (by kernel_rfl) (by kernel_rfl) (by (refine Ent.imp ?_; repeat first | exact Imp.refl _ | exact Imp.nil _ | (apply Imp.pull; focus ((repeat first | exact Del.head _ _ | apply Del.tail); done)) | (apply Imp.row; focus ((repeat first | exact Del.head _ _ | apply Del.tail); done)) | apply Imp.drop)) (D.ldR rfl pl30 (by (repeat first | exact LMem.head _ _ | apply LMem.tail)) (by rfl)) ?_
      refine TR.p 3 rfl (by kernel_rfl) (DP.fa 2 rfl Try.underlying33 rfl rfl sz3) ?_
      refine TR.d 4 rfl (by kernel_rfl) (by kernel_rfl) (by (refine Ent.imp ?_; repeat first | exact Imp.refl _ | exact Imp.nil _ | (apply Imp.pull; focus ((repeat first | exact Del.head _ _ | apply Del.tail); done)) | (apply Imp.row; focus ((repeat first | exact Del.head _ _ | apply Del.tail); done)) | apply Imp.drop)) (D.ldR rfl pl3 (by (repeat first | exact LMem.head _ _ | apply LMem.tail)) (by rfl)) ?_
      refine TR.n 5 (by kernel_rfl) rfl (N.callF (wide_spec t.n) Try.call57 ⟨rfl, trivial⟩ (by (repeat first | exact Pick.nil _ | (apply Pick.cons; focus ((repeat first | exact Del.head _ _ | apply Del.tail); done))))) ?_
      rintro u70 _ ⟨_, ⟨rfl, rfl⟩, rfl⟩
      try simp only [List.cons_append, List.nil_append]
      refine ⟨.inr (by (refine Ent.imp ?_; repeat first | exact Imp.refl _ | exact Imp.nil _ | (apply Imp.pull; focus ((repeat first | exact Del.head _ _ | apply Del.tail); done)) | (apply Imp.row; focus ((repeat first | exact Del.head _ _ | apply Del.tail); done)) | apply Imp.drop)), ?_⟩
      refine TR.n 6 (by kernel_rfl) rfl (N.callF (rnumA r t.at_ (wideN t.n) bs lt hat (wideN_le t.n)) Try.call56 ⟨rfl, rfl, rfl, trivial⟩ (by (repeat first | exact Pick.nil _ | (apply Pick.cons; focus ((repeat first | exact Del.head _ _ | apply Del.tail); done))))) ?_
      rintro u71 _ ⟨_, ⟨rfl, rfl⟩, rfl⟩
      try simp only [List.cons_append, List.nil_append]
      refine ⟨.inl rfl, ?_⟩
      refine TR.p 7 rfl (by kernel_rfl) (DP.mv (by conv => lhs; whnf)) ?_
      refine TR.p 8 rfl (by kernel_rfl) (DP.ex rfl rfl) ?_
      refine TR.p 9 rfl (by kernel_rfl) (DP.ex rfl rfl) ?_
      refine TR.p 10 rfl (by kernel_rfl) (DP.as (by conv => lhs; whnf)) ?_
      refine TR.p 11 rfl (by kernel_rfl) (DP.as (by conv => lhs; whnf)) ?_
      refine TR.done (by kernel_rfl) ?_
      refine TQ.nn ?_
      refine T.seq ?_
      refine T.reg ?_
      refine TO.p (DP.mv (by conv => lhs; whnf)) ?_
      refine TO.p (DP.mv (by conv => lhs; whnf)) ?_
      refine TO.p (DP.to (v' := .bool true) (DP.eql rfl rfl) (by simp)) ?_
      refine TO.p (DP.mv (by conv => lhs; whnf)) ?_
      refine TO.onP rfl (DP.mv (by conv => lhs; whnf)) ?_
      refine TO.onP rfl (DP.mv (by conv => lhs; whnf)) ?_
      refine TO.onP rfl (DP.to (v' := .bool true) (DP.eql rfl rfl) (by simp)) ?_
      refine TO.p (DP.pkT rfl (by conv => lhs; whnf)) ?_
      refine TO.p (DP.as (by conv => lhs; whnf)) ?_
      refine TO.nil ?_
      refine TQ.nn ?_
      refine T.ret ?_
      refine TQ.br ?_
      refine TQ.nr ?_
      refine TQ.ret (vs := [.bool true]) (L' := [memA p bs lt, refA r bs lt]) rfl ⟨rfl, rfl⟩ ⟨rfl, bs, lt, rfl, rfl⟩ (by (refine Ent.imp ?_; repeat first | exact Imp.refl _ | exact Imp.nil _ | (apply Imp.pull; focus ((repeat first | exact Del.head _ _ | apply Del.tail); done)) | (apply Imp.row; focus ((repeat first | exact Del.head _ _ | apply Del.tail); done)) | apply Imp.drop))
    · refine T.seq ?_
      refine T.reg ?_
      refine TO.p (DP.eqlI rfl rfl) ?_
      refine TO.p (DP.as (by conv => lhs; whnf)) ?_
      refine TO.nil ?_
      refine TQ.nn ?_
      refine T.condD rfl (fun hc2 => ?_) (fun hc2 => ?_)
      · refine T.seq ?_
        refine T.draw ([row 33 b9 [.int .i64 t.dd, .int .u32 t.at_, .int .i64 t.n, .int .u64 t.x, str t.s]]) [11] mixed (by repeat first | exact Calm.rt | apply Calm.t | apply Calm.b | apply Calm.l | apply Calm.ct) ?_
        refine TR.p 0 rfl (by kernel_rfl) (DP.mv (by conv => lhs; whnf)) ?_
        refine TR.p 1 rfl (by kernel_rfl) (DP.fa 1 rfl Try.underlying33 rfl rfl sz30) ?_
        refine TR.d 2 rfl (by kernel_rfl) (by kernel_rfl) (by (refine Ent.imp ?_; repeat first | exact Imp.refl _ | exact Imp.nil _ | (apply Imp.pull; focus ((repeat first | exact Del.head _ _ | apply Del.tail); done)) | (apply Imp.row; focus ((repeat first | exact Del.head _ _ | apply Del.tail); done)) | apply Imp.drop)) (D.ldR rfl pl30 (by (repeat first | exact LMem.head _ _ | apply LMem.tail)) (by rfl)) ?_
        refine TR.p 3 rfl (by kernel_rfl) (DP.fa 4 rfl Try.underlying33 rfl rfl sz9) ?_
        refine TR.d 4 rfl (by kernel_rfl) (by kernel_rfl) (by (refine Ent.imp ?_; repeat first | exact Imp.refl _ | exact Imp.nil _ | (apply Imp.pull; focus ((repeat first | exact Del.head _ _ | apply Del.tail); done)) | (apply Imp.row; focus ((repeat first | exact Del.head _ _ | apply Del.tail); done)) | apply Imp.drop)) (D.ldR rfl pl9 (by (repeat first | exact LMem.head _ _ | apply LMem.tail)) (by rfl)) ?_
        refine TR.p 6 rfl (by kernel_rfl) (DP.mv (by conv => lhs; whnf)) ?_
        refine TR.p 7 rfl (by kernel_rfl) (DP.fa 1 rfl Try.underlying33 rfl rfl sz30) ?_
        refine TR.d 8 rfl (by kernel_rfl) (by kernel_rfl) (by (refine Ent.imp ?_; repeat first | exact Imp.refl _ | exact Imp.nil _ | (apply Imp.pull; focus ((repeat first | exact Del.head _ _ | apply Del.tail); done)) | (apply Imp.row; focus ((repeat first | exact Del.head _ _ | apply Del.tail); done)) | apply Imp.drop)) (D.ldR rfl pl30 (by (repeat first | exact LMem.head _ _ | apply LMem.tail)) (by rfl)) ?_
        refine TR.p 9 rfl (by kernel_rfl) (DP.fa 4 rfl Try.underlying33 rfl rfl sz9) ?_
        refine TR.d 10 rfl (by kernel_rfl) (by kernel_rfl) (by (refine Ent.imp ?_; repeat first | exact Imp.refl _ | exact Imp.nil _ | (apply Imp.pull; focus ((repeat first | exact Del.head _ _ | apply Del.tail); done)) | (apply Imp.row; focus ((repeat first | exact Del.head _ _ | apply Del.tail); done)) | apply Imp.drop)) (D.ldR rfl pl9 (by (repeat first | exact LMem.head _ _ | apply LMem.tail)) (by rfl)) ?_
        refine TR.n 5 (by kernel_rfl) rfl (N.callF (writeA p t.at_ t.s bs lt hat (by omega)) Try.call12 ⟨rfl, rfl, rfl, trivial⟩ (by (repeat first | exact Pick.nil _ | (apply Pick.cons; focus ((repeat first | exact Del.head _ _ | apply Del.tail); done))))) ?_
        rintro u89 _ ⟨_, ⟨rfl, rfl⟩, rfl⟩
        try simp only [List.cons_append, List.nil_append]
        refine ⟨.inr (by (refine Ent.imp ?_; repeat first | exact Imp.refl _ | exact Imp.nil _ | (apply Imp.pull; focus ((repeat first | exact Del.head _ _ | apply Del.tail); done)) | (apply Imp.row; focus ((repeat first | exact Del.head _ _ | apply Del.tail); done)) | apply Imp.drop)), ?_⟩
        refine TR.n 11 (by kernel_rfl) rfl (N.callF (rwriteA r t.at_ t.s bs lt hat (by omega)) Try.call58 ⟨rfl, rfl, rfl, trivial⟩ (by (repeat first | exact Pick.nil _ | (apply Pick.cons; focus ((repeat first | exact Del.head _ _ | apply Del.tail); done))))) ?_
        rintro u95 _ ⟨_, ⟨rfl, rfl⟩, rfl⟩
        try simp only [List.cons_append, List.nil_append]
        refine ⟨.inl rfl, ?_⟩
        refine TR.p 12 rfl (by kernel_rfl) (DP.to (v' := .bool true) (DP.eql rfl rfl) (by simp)) ?_
        refine TR.p 13 rfl (by kernel_rfl) (DP.as (by conv => lhs; whnf)) ?_
        refine TR.done (by kernel_rfl) ?_
        refine TQ.nn ?_
        refine T.ret ?_
        refine TQ.br ?_
        refine TQ.nr ?_
        refine TQ.ret (vs := [.bool true]) (L' := [memA p (writeE bs lt t.at_ t.s false 11).2 lt, refA r (writeE bs lt t.at_ t.s false 11).2 lt]) rfl ⟨rfl, rfl⟩ ⟨rfl, (writeE bs lt t.at_ t.s false 11).2, lt, writeE_len _ _ _ _ _ _, rfl⟩ (by (refine Ent.imp ?_; repeat first | exact Imp.refl _ | exact Imp.nil _ | (apply Imp.pull; focus ((repeat first | exact Del.head _ _ | apply Del.tail); done)) | (apply Imp.row; focus ((repeat first | exact Del.head _ _ | apply Del.tail); done)) | apply Imp.drop))
      · refine T.seq ?_
        refine T.reg ?_
        refine TO.p (DP.eqlI rfl rfl) ?_
        refine TO.p (DP.as (by conv => lhs; whnf)) ?_
        refine TO.nil ?_
        refine TQ.nn ?_
        refine T.condD rfl (fun hc3 => ?_) (fun hc3 => ?_)
        · refine T.seq ?_
          refine T.draw ([row 33 b9 [.int .i64 t.dd, .int .u32 t.at_, .int .i64 t.n, .int .u64 t.x, str t.s]]) [17] mixed (by repeat first | exact Calm.rt | apply Calm.t | apply Calm.b | apply Calm.l | apply Calm.ct) ?_
          refine TR.p 0 rfl (by kernel_rfl) (DP.mv (by conv => lhs; whnf)) ?_
          refine TR.p 1 rfl (by kernel_rfl) (DP.fa 1 rfl Try.underlying33 rfl rfl sz30) ?_
          refine TR.d 2 rfl (by kernel_rfl) (by kernel_rfl) (by (refine Ent.imp ?_; repeat first | exact Imp.refl _ | exact Imp.nil _ | (apply Imp.pull; focus ((repeat first | exact Del.head _ _ | apply Del.tail); done)) | (apply Imp.row; focus ((repeat first | exact Del.head _ _ | apply Del.tail); done)) | apply Imp.drop)) (D.ldR rfl pl30 (by (repeat first | exact LMem.head _ _ | apply LMem.tail)) (by rfl)) ?_
          refine TR.p 3 rfl (by kernel_rfl) (DP.fa 2 rfl Try.underlying33 rfl rfl sz3) ?_
          refine TR.d 4 rfl (by kernel_rfl) (by kernel_rfl) (by (refine Ent.imp ?_; repeat first | exact Imp.refl _ | exact Imp.nil _ | (apply Imp.pull; focus ((repeat first | exact Del.head _ _ | apply Del.tail); done)) | (apply Imp.row; focus ((repeat first | exact Del.head _ _ | apply Del.tail); done)) | apply Imp.drop)) (D.ldR rfl pl3 (by (repeat first | exact LMem.head _ _ | apply LMem.tail)) (by rfl)) ?_
          refine TR.p 5 rfl (by kernel_rfl) (DP.fa 3 rfl Try.underlying33 rfl rfl sz31) ?_
          refine TR.d 6 rfl (by kernel_rfl) (by kernel_rfl) (by (refine Ent.imp ?_; repeat first | exact Imp.refl _ | exact Imp.nil _ | (apply Imp.pull; focus ((repeat first | exact Del.head _ _ | apply Del.tail); done)) | (apply Imp.row; focus ((repeat first | exact Del.head _ _ | apply Del.tail); done)) | apply Imp.drop)) (D.ldR rfl pl31 (by (repeat first | exact LMem.head _ _ | apply LMem.tail)) (by rfl)) ?_
          refine TR.p 8 rfl (by kernel_rfl) (DP.mv (by conv => lhs; whnf)) ?_
          refine TR.p 9 rfl (by kernel_rfl) (DP.fa 1 rfl Try.underlying33 rfl rfl sz30) ?_
          refine TR.d 10 rfl (by kernel_rfl) (by kernel_rfl) (by (refine Ent.imp ?_; repeat first | exact Imp.refl _ | exact Imp.nil _ | (apply Imp.pull; focus ((repeat first | exact Del.head _ _ | apply Del.tail); done)) | (apply Imp.row; focus ((repeat first | exact Del.head _ _ | apply Del.tail); done)) | apply Imp.drop)) (D.ldR rfl pl30 (by (repeat first | exact LMem.head _ _ | apply LMem.tail)) (by rfl)) ?_
          refine TR.p 11 rfl (by kernel_rfl) (DP.fa 3 rfl Try.underlying33 rfl rfl sz31) ?_
          refine TR.d 12 rfl (by kernel_rfl) (by kernel_rfl) (by (refine Ent.imp ?_; repeat first | exact Imp.refl _ | exact Imp.nil _ | (apply Imp.pull; focus ((repeat first | exact Del.head _ _ | apply Del.tail); done)) | (apply Imp.row; focus ((repeat first | exact Del.head _ _ | apply Del.tail); done)) | apply Imp.drop)) (D.ldR rfl pl31 (by (repeat first | exact LMem.head _ _ | apply LMem.tail)) (by rfl)) ?_
          refine TR.p 13 rfl (by kernel_rfl) (DP.fa 2 rfl Try.underlying33 rfl rfl sz3) ?_
          refine TR.d 14 rfl (by kernel_rfl) (by kernel_rfl) (by (refine Ent.imp ?_; repeat first | exact Imp.refl _ | exact Imp.nil _ | (apply Imp.pull; focus ((repeat first | exact Del.head _ _ | apply Del.tail); done)) | (apply Imp.row; focus ((repeat first | exact Del.head _ _ | apply Del.tail); done)) | apply Imp.drop)) (D.ldR rfl pl3 (by (repeat first | exact LMem.head _ _ | apply LMem.tail)) (by rfl)) ?_
          refine TR.n 7 (by kernel_rfl) rfl (N.callF (put_spec p t.at_ t.x t.n bs lt hat hxx) Try.call13 ⟨rfl, rfl, rfl, rfl, trivial⟩ (by (repeat first | exact Pick.nil _ | (apply Pick.cons; focus ((repeat first | exact Del.head _ _ | apply Del.tail); done))))) ?_
          rintro u106 _ ⟨_, ⟨rfl, rfl⟩, rfl⟩
          try simp only [List.cons_append, List.nil_append]
          refine ⟨.inr (by (refine Ent.imp ?_; repeat first | exact Imp.refl _ | exact Imp.nil _ | (apply Imp.pull; focus ((repeat first | exact Del.head _ _ | apply Del.tail); done)) | (apply Imp.row; focus ((repeat first | exact Del.head _ _ | apply Del.tail); done)) | apply Imp.drop)), ?_⟩
          refine TR.n 15 (by kernel_rfl) rfl (N.callF (wide_spec t.n) Try.call57 ⟨rfl, trivial⟩ (by (repeat first | exact Pick.nil _ | (apply Pick.cons; focus ((repeat first | exact Del.head _ _ | apply Del.tail); done))))) ?_
          rintro u114 _ ⟨_, ⟨rfl, rfl⟩, rfl⟩
          try simp only [List.cons_append, List.nil_append]
          refine ⟨.inr (by (refine Ent.imp ?_; repeat first | exact Imp.refl _ | exact Imp.nil _ | (apply Imp.pull; focus ((repeat first | exact Del.head _ _ | apply Del.tail); done)) | (apply Imp.row; focus ((repeat first | exact Del.head _ _ | apply Del.tail); done)) | apply Imp.drop)), ?_⟩
          refine TR.n 16 (by kernel_rfl) rfl (N.callF (rbytes t.x (wideN t.n) hxx (wideN_le t.n) (wideN_pos t.n)) Try.call59 ⟨rfl, rfl, trivial⟩ (by (repeat first | exact Pick.nil _ | (apply Pick.cons; focus ((repeat first | exact Del.head _ _ | apply Del.tail); done))))) ?_
          rintro u115 _ ⟨_, ⟨rfl, rfl⟩, rfl⟩
          try simp only [List.cons_append, List.nil_append]
          refine ⟨.inr (by (refine Ent.imp ?_; repeat first | exact Imp.refl _ | exact Imp.nil _ | (apply Imp.pull; focus ((repeat first | exact Del.head _ _ | apply Del.tail); done)) | (apply Imp.row; focus ((repeat first | exact Del.head _ _ | apply Del.tail); done)) | apply Imp.drop)), ?_⟩
          refine TR.n 17 (by kernel_rfl) rfl (N.callF (rwriteA r t.at_ (leB t.x (wideN t.n)) bs lt hat (by rw [leB_len]; have := wideN_le t.n; omega)) Try.call58 ⟨rfl, rfl, rfl, trivial⟩ (by (repeat first | exact Pick.nil _ | (apply Pick.cons; focus ((repeat first | exact Del.head _ _ | apply Del.tail); done))))) ?_
          rintro u116 _ ⟨_, ⟨rfl, rfl⟩, rfl⟩
          try simp only [List.cons_append, List.nil_append]
          refine ⟨.inl rfl, ?_⟩
          refine TR.p 18 rfl (by kernel_rfl) (DP.to (v' := .bool true) (DP.eql rfl rfl) (by simp)) ?_
          refine TR.p 19 rfl (by kernel_rfl) (DP.as (by conv => lhs; whnf)) ?_
          refine TR.done (by kernel_rfl) ?_
          refine TQ.nn ?_
          refine T.ret ?_
          refine TQ.br ?_
          refine TQ.nr ?_
          refine TQ.ret (vs := [.bool true]) (L' := [memA p (writeE bs lt t.at_ (leB t.x (wideN t.n)) false 11).2 lt, refA r (writeE bs lt t.at_ (leB t.x (wideN t.n)) false 11).2 lt]) rfl ⟨rfl, rfl⟩ ⟨rfl, (writeE bs lt t.at_ (leB t.x (wideN t.n)) false 11).2, lt, writeE_len _ _ _ _ _ _, rfl⟩ (by (refine Ent.imp ?_; repeat first | exact Imp.refl _ | exact Imp.nil _ | (apply Imp.pull; focus ((repeat first | exact Del.head _ _ | apply Del.tail); done)) | (apply Imp.row; focus ((repeat first | exact Del.head _ _ | apply Del.tail); done)) | apply Imp.drop))
        · refine T.seq ?_
          refine T.reg ?_
          refine TO.p (DP.eqlI rfl rfl) ?_
          refine TO.p (DP.as (by conv => lhs; whnf)) ?_
          refine TO.nil ?_
          refine TQ.nn ?_
          refine T.condD rfl (fun hc4 => ?_) (fun hc4 => ?_)
          · refine T.seq ?_
            refine T.draw ([row 33 b9 [.int .i64 t.dd, .int .u32 t.at_, .int .i64 t.n, .int .u64 t.x, str t.s]]) [15] mixed (by repeat first | exact Calm.rt | apply Calm.t | apply Calm.b | apply Calm.l | apply Calm.ct) ?_
            refine TR.p 0 rfl (by kernel_rfl) (DP.mv (by conv => lhs; whnf)) ?_
            refine TR.p 1 rfl (by kernel_rfl) (DP.fa 1 rfl Try.underlying33 rfl rfl sz30) ?_
            refine TR.d 2 rfl (by kernel_rfl) (by kernel_rfl) (by (refine Ent.imp ?_; repeat first | exact Imp.refl _ | exact Imp.nil _ | (apply Imp.pull; focus ((repeat first | exact Del.head _ _ | apply Del.tail); done)) | (apply Imp.row; focus ((repeat first | exact Del.head _ _ | apply Del.tail); done)) | apply Imp.drop)) (D.ldR rfl pl30 (by (repeat first | exact LMem.head _ _ | apply LMem.tail)) (by rfl)) ?_
            refine TR.p 3 rfl (by kernel_rfl) (DP.fa 2 rfl Try.underlying33 rfl rfl sz3) ?_
            refine TR.d 4 rfl (by kernel_rfl) (by kernel_rfl) (by (refine Ent.imp ?_; repeat first | exact Imp.refl _ | exact Imp.nil _ | (apply Imp.pull; focus ((repeat first | exact Del.head _ _ | apply Del.tail); done)) | (apply Imp.row; focus ((repeat first | exact Del.head _ _ | apply Del.tail); done)) | apply Imp.drop)) (D.ldR rfl pl3 (by (repeat first | exact LMem.head _ _ | apply LMem.tail)) (by rfl)) ?_
            refine TR.p 5 rfl (by kernel_rfl) (DP.to (v' := .int .u32 ((u32N t.n : Nat) : Int)) (DP.cvX rfl is3 Try.underlying30) (by rw [u32N_wrap])) ?_
            refine TR.p 6 rfl (by kernel_rfl) (DP.bdL (vs := [(0, _), (1, _)]) (us := [_, _]) ⟨rfl, (by conv => lhs; whnf), rfl, (by conv => lhs; whnf), trivial⟩ pc42 zr42 rfl) ?_
            refine TR.p 8 rfl (by kernel_rfl) (DP.mv (by conv => lhs; whnf)) ?_
            refine TR.p 9 rfl (by kernel_rfl) (DP.fa 1 rfl Try.underlying33 rfl rfl sz30) ?_
            refine TR.d 10 rfl (by kernel_rfl) (by kernel_rfl) (by (refine Ent.imp ?_; repeat first | exact Imp.refl _ | exact Imp.nil _ | (apply Imp.pull; focus ((repeat first | exact Del.head _ _ | apply Del.tail); done)) | (apply Imp.row; focus ((repeat first | exact Del.head _ _ | apply Del.tail); done)) | apply Imp.drop)) (D.ldR rfl pl30 (by (repeat first | exact LMem.head _ _ | apply LMem.tail)) (by rfl)) ?_
            refine TR.p 11 rfl (by kernel_rfl) (DP.fa 2 rfl Try.underlying33 rfl rfl sz3) ?_
            refine TR.d 12 rfl (by kernel_rfl) (by kernel_rfl) (by (refine Ent.imp ?_; repeat first | exact Imp.refl _ | exact Imp.nil _ | (apply Imp.pull; focus ((repeat first | exact Del.head _ _ | apply Del.tail); done)) | (apply Imp.row; focus ((repeat first | exact Del.head _ _ | apply Del.tail); done)) | apply Imp.drop)) (D.ldR rfl pl3 (by (repeat first | exact LMem.head _ _ | apply LMem.tail)) (by rfl)) ?_
            refine TR.p 13 rfl (by kernel_rfl) (DP.to (v' := .int .u32 ((u32N t.n : Nat) : Int)) (DP.cvX rfl is3 Try.underlying30) (by rw [u32N_wrap])) ?_
            refine TR.p 14 rfl (by kernel_rfl) (DP.bdL (vs := [(0, _), (1, _)]) (us := [_, _]) ⟨rfl, (by conv => lhs; whnf), rfl, (by conv => lhs; whnf), trivial⟩ pc42 zr42 rfl) ?_
            refine TR.n 7 (by kernel_rfl) rfl (N.callF (lendA p t.at_ (u32N t.n) bs lt hat hun) Try.call14 ⟨rfl, rfl, trivial⟩ (by (repeat first | exact Pick.nil _ | (apply Pick.cons; focus ((repeat first | exact Del.head _ _ | apply Del.tail); done))))) ?_
            rintro u127 _ ⟨_, ⟨rfl, rfl⟩, rfl⟩
            try simp only [List.cons_append, List.nil_append]
            refine ⟨.inr (by (refine Ent.imp ?_; repeat first | exact Imp.refl _ | exact Imp.nil _ | (apply Imp.pull; focus ((repeat first | exact Del.head _ _ | apply Del.tail); done)) | (apply Imp.row; focus ((repeat first | exact Del.head _ _ | apply Del.tail); done)) | apply Imp.drop)), ?_⟩
            refine TR.n 15 (by kernel_rfl) rfl (N.callF (rlendA r t.at_ (u32N t.n) bs lt hat hun) Try.call60 ⟨rfl, rfl, trivial⟩ (by (repeat first | exact Pick.nil _ | (apply Pick.cons; focus ((repeat first | exact Del.head _ _ | apply Del.tail); done))))) ?_
            rintro u135 _ ⟨_, ⟨rfl, rfl⟩, rfl⟩
            try simp only [List.cons_append, List.nil_append]
            refine ⟨.inl rfl, ?_⟩
            refine TR.p 16 rfl (by kernel_rfl) (DP.to (v' := .bool true) (DP.eql rfl rfl) (by simp)) ?_
            refine TR.p 17 rfl (by kernel_rfl) (DP.as (by conv => lhs; whnf)) ?_
            refine TR.done (by kernel_rfl) ?_
            refine TQ.nn ?_
            refine T.ret ?_
            refine TQ.br ?_
            refine TQ.nr ?_
            refine TQ.ret (vs := [.bool true]) (L' := [memA p bs (turnE lt t.at_ (u32N t.n) true 11).2, refA r bs (turnE lt t.at_ (u32N t.n) true 11).2]) rfl ⟨rfl, rfl⟩ ⟨rfl, bs, (turnE lt t.at_ (u32N t.n) true 11).2, rfl, rfl⟩ (by (refine Ent.imp ?_; repeat first | exact Imp.refl _ | exact Imp.nil _ | (apply Imp.pull; focus ((repeat first | exact Del.head _ _ | apply Del.tail); done)) | (apply Imp.row; focus ((repeat first | exact Del.head _ _ | apply Del.tail); done)) | apply Imp.drop))
          · refine T.seq ?_
            refine T.reg ?_
            refine TO.p (DP.eqlI rfl rfl) ?_
            refine TO.p (DP.as (by conv => lhs; whnf)) ?_
            refine TO.nil ?_
            refine TQ.nn ?_
            refine T.condD rfl (fun hc5 => ?_) (fun hc5 => ?_)
            · refine T.seq ?_
              refine T.draw ([row 33 b9 [.int .i64 t.dd, .int .u32 t.at_, .int .i64 t.n, .int .u64 t.x, str t.s]]) [15] mixed (by repeat first | exact Calm.rt | apply Calm.t | apply Calm.b | apply Calm.l | apply Calm.ct) ?_
              refine TR.p 0 rfl (by kernel_rfl) (DP.mv (by conv => lhs; whnf)) ?_
              refine TR.p 1 rfl (by kernel_rfl) (DP.fa 1 rfl Try.underlying33 rfl rfl sz30) ?_
              refine TR.d 2 rfl (by kernel_rfl) (by kernel_rfl) (by (refine Ent.imp ?_; repeat first | exact Imp.refl _ | exact Imp.nil _ | (apply Imp.pull; focus ((repeat first | exact Del.head _ _ | apply Del.tail); done)) | (apply Imp.row; focus ((repeat first | exact Del.head _ _ | apply Del.tail); done)) | apply Imp.drop)) (D.ldR rfl pl30 (by (repeat first | exact LMem.head _ _ | apply LMem.tail)) (by rfl)) ?_
              refine TR.p 3 rfl (by kernel_rfl) (DP.fa 2 rfl Try.underlying33 rfl rfl sz3) ?_
              refine TR.d 4 rfl (by kernel_rfl) (by kernel_rfl) (by (refine Ent.imp ?_; repeat first | exact Imp.refl _ | exact Imp.nil _ | (apply Imp.pull; focus ((repeat first | exact Del.head _ _ | apply Del.tail); done)) | (apply Imp.row; focus ((repeat first | exact Del.head _ _ | apply Del.tail); done)) | apply Imp.drop)) (D.ldR rfl pl3 (by (repeat first | exact LMem.head _ _ | apply LMem.tail)) (by rfl)) ?_
              refine TR.p 5 rfl (by kernel_rfl) (DP.to (v' := .int .u32 ((u32N t.n : Nat) : Int)) (DP.cvX rfl is3 Try.underlying30) (by rw [u32N_wrap])) ?_
              refine TR.p 6 rfl (by kernel_rfl) (DP.bdL (vs := [(0, _), (1, _)]) (us := [_, _]) ⟨rfl, (by conv => lhs; whnf), rfl, (by conv => lhs; whnf), trivial⟩ pc42 zr42 rfl) ?_
              refine TR.p 8 rfl (by kernel_rfl) (DP.mv (by conv => lhs; whnf)) ?_
              refine TR.p 9 rfl (by kernel_rfl) (DP.fa 1 rfl Try.underlying33 rfl rfl sz30) ?_
              refine TR.d 10 rfl (by kernel_rfl) (by kernel_rfl) (by (refine Ent.imp ?_; repeat first | exact Imp.refl _ | exact Imp.nil _ | (apply Imp.pull; focus ((repeat first | exact Del.head _ _ | apply Del.tail); done)) | (apply Imp.row; focus ((repeat first | exact Del.head _ _ | apply Del.tail); done)) | apply Imp.drop)) (D.ldR rfl pl30 (by (repeat first | exact LMem.head _ _ | apply LMem.tail)) (by rfl)) ?_
              refine TR.p 11 rfl (by kernel_rfl) (DP.fa 2 rfl Try.underlying33 rfl rfl sz3) ?_
              refine TR.d 12 rfl (by kernel_rfl) (by kernel_rfl) (by (refine Ent.imp ?_; repeat first | exact Imp.refl _ | exact Imp.nil _ | (apply Imp.pull; focus ((repeat first | exact Del.head _ _ | apply Del.tail); done)) | (apply Imp.row; focus ((repeat first | exact Del.head _ _ | apply Del.tail); done)) | apply Imp.drop)) (D.ldR rfl pl3 (by (repeat first | exact LMem.head _ _ | apply LMem.tail)) (by rfl)) ?_
              refine TR.p 13 rfl (by kernel_rfl) (DP.to (v' := .int .u32 ((u32N t.n : Nat) : Int)) (DP.cvX rfl is3 Try.underlying30) (by rw [u32N_wrap])) ?_
              refine TR.p 14 rfl (by kernel_rfl) (DP.bdL (vs := [(0, _), (1, _)]) (us := [_, _]) ⟨rfl, (by conv => lhs; whnf), rfl, (by conv => lhs; whnf), trivial⟩ pc42 zr42 rfl) ?_
              refine TR.n 7 (by kernel_rfl) rfl (N.callF (backA p t.at_ (u32N t.n) bs lt hat hun) Try.call15 ⟨rfl, rfl, trivial⟩ (by (repeat first | exact Pick.nil _ | (apply Pick.cons; focus ((repeat first | exact Del.head _ _ | apply Del.tail); done))))) ?_
              rintro u146 _ ⟨_, ⟨rfl, rfl⟩, rfl⟩
              try simp only [List.cons_append, List.nil_append]
              refine ⟨.inr (by (refine Ent.imp ?_; repeat first | exact Imp.refl _ | exact Imp.nil _ | (apply Imp.pull; focus ((repeat first | exact Del.head _ _ | apply Del.tail); done)) | (apply Imp.row; focus ((repeat first | exact Del.head _ _ | apply Del.tail); done)) | apply Imp.drop)), ?_⟩
              refine TR.n 15 (by kernel_rfl) rfl (N.callF (rbackA r t.at_ (u32N t.n) bs lt hat hun) Try.call61 ⟨rfl, rfl, trivial⟩ (by (repeat first | exact Pick.nil _ | (apply Pick.cons; focus ((repeat first | exact Del.head _ _ | apply Del.tail); done))))) ?_
              rintro u154 _ ⟨_, ⟨rfl, rfl⟩, rfl⟩
              try simp only [List.cons_append, List.nil_append]
              refine ⟨.inl rfl, ?_⟩
              refine TR.p 16 rfl (by kernel_rfl) (DP.to (v' := .bool true) (DP.eql rfl rfl) (by simp)) ?_
              refine TR.p 17 rfl (by kernel_rfl) (DP.as (by conv => lhs; whnf)) ?_
              refine TR.done (by kernel_rfl) ?_
              refine TQ.nn ?_
              refine T.ret ?_
              refine TQ.br ?_
              refine TQ.nr ?_
              refine TQ.ret (vs := [.bool true]) (L' := [memA p bs (turnE lt t.at_ (u32N t.n) false 12).2, refA r bs (turnE lt t.at_ (u32N t.n) false 12).2]) rfl ⟨rfl, rfl⟩ ⟨rfl, bs, (turnE lt t.at_ (u32N t.n) false 12).2, rfl, rfl⟩ (by (refine Ent.imp ?_; repeat first | exact Imp.refl _ | exact Imp.nil _ | (apply Imp.pull; focus ((repeat first | exact Del.head _ _ | apply Del.tail); done)) | (apply Imp.row; focus ((repeat first | exact Del.head _ _ | apply Del.tail); done)) | apply Imp.drop))
            · refine T.seq ?_
              refine T.reg ?_
              refine TO.p (DP.eqlI rfl rfl) ?_
              refine TO.p (DP.as (by conv => lhs; whnf)) ?_
              refine TO.nil ?_
              refine TQ.nn ?_
              refine T.condD rfl (fun hc6 => ?_) (fun hc6 => ?_)
              · refine T.seq ?_
                refine T.draw ([row 33 b9 [.int .i64 t.dd, .int .u32 t.at_, .int .i64 t.n, .int .u64 t.x, str t.s]]) [11] mixed (by repeat first | exact Calm.rt | apply Calm.t | apply Calm.b | apply Calm.l | apply Calm.ct) ?_
                refine TR.p 0 rfl (by kernel_rfl) (DP.mv (by conv => lhs; whnf)) ?_
                refine TR.p 1 rfl (by kernel_rfl) (DP.fa 1 rfl Try.underlying33 rfl rfl sz30) ?_
                refine TR.d 2 rfl (by kernel_rfl) (by kernel_rfl) (by (refine Ent.imp ?_; repeat first | exact Imp.refl _ | exact Imp.nil _ | (apply Imp.pull; focus ((repeat first | exact Del.head _ _ | apply Del.tail); done)) | (apply Imp.row; focus ((repeat first | exact Del.head _ _ | apply Del.tail); done)) | apply Imp.drop)) (D.ldR rfl pl30 (by (repeat first | exact LMem.head _ _ | apply LMem.tail)) (by rfl)) ?_
                refine TR.p 3 rfl (by kernel_rfl) (DP.fa 4 rfl Try.underlying33 rfl rfl sz9) ?_
                refine TR.d 4 rfl (by kernel_rfl) (by kernel_rfl) (by (refine Ent.imp ?_; repeat first | exact Imp.refl _ | exact Imp.nil _ | (apply Imp.pull; focus ((repeat first | exact Del.head _ _ | apply Del.tail); done)) | (apply Imp.row; focus ((repeat first | exact Del.head _ _ | apply Del.tail); done)) | apply Imp.drop)) (D.ldR rfl pl9 (by (repeat first | exact LMem.head _ _ | apply LMem.tail)) (by rfl)) ?_
                refine TR.p 6 rfl (by kernel_rfl) (DP.mv (by conv => lhs; whnf)) ?_
                refine TR.p 7 rfl (by kernel_rfl) (DP.fa 1 rfl Try.underlying33 rfl rfl sz30) ?_
                refine TR.d 8 rfl (by kernel_rfl) (by kernel_rfl) (by (refine Ent.imp ?_; repeat first | exact Imp.refl _ | exact Imp.nil _ | (apply Imp.pull; focus ((repeat first | exact Del.head _ _ | apply Del.tail); done)) | (apply Imp.row; focus ((repeat first | exact Del.head _ _ | apply Del.tail); done)) | apply Imp.drop)) (D.ldR rfl pl30 (by (repeat first | exact LMem.head _ _ | apply LMem.tail)) (by rfl)) ?_
                refine TR.p 9 rfl (by kernel_rfl) (DP.fa 4 rfl Try.underlying33 rfl rfl sz9) ?_
                refine TR.d 10 rfl (by kernel_rfl) (by kernel_rfl) (by (refine Ent.imp ?_; repeat first | exact Imp.refl _ | exact Imp.nil _ | (apply Imp.pull; focus ((repeat first | exact Del.head _ _ | apply Del.tail); done)) | (apply Imp.row; focus ((repeat first | exact Del.head _ _ | apply Del.tail); done)) | apply Imp.drop)) (D.ldR rfl pl9 (by (repeat first | exact LMem.head _ _ | apply LMem.tail)) (by rfl)) ?_
                refine TR.n 5 (by kernel_rfl) rfl (N.callF (deviceA p t.at_ t.s bs lt hat (by omega)) Try.call16 ⟨rfl, rfl, rfl, trivial⟩ (by (repeat first | exact Pick.nil _ | (apply Pick.cons; focus ((repeat first | exact Del.head _ _ | apply Del.tail); done))))) ?_
                rintro u163 _ ⟨_, ⟨rfl, rfl⟩, rfl⟩
                try simp only [List.cons_append, List.nil_append]
                refine ⟨.inr (by (refine Ent.imp ?_; repeat first | exact Imp.refl _ | exact Imp.nil _ | (apply Imp.pull; focus ((repeat first | exact Del.head _ _ | apply Del.tail); done)) | (apply Imp.row; focus ((repeat first | exact Del.head _ _ | apply Del.tail); done)) | apply Imp.drop)), ?_⟩
                refine TR.n 11 (by kernel_rfl) rfl (N.callF (rdeviceA r t.at_ t.s bs lt hat (by omega)) Try.call62 ⟨rfl, rfl, rfl, trivial⟩ (by (repeat first | exact Pick.nil _ | (apply Pick.cons; focus ((repeat first | exact Del.head _ _ | apply Del.tail); done))))) ?_
                rintro u169 _ ⟨_, ⟨rfl, rfl⟩, rfl⟩
                try simp only [List.cons_append, List.nil_append]
                refine ⟨.inl rfl, ?_⟩
                refine TR.p 12 rfl (by kernel_rfl) (DP.to (v' := .bool true) (DP.eql rfl rfl) (by simp)) ?_
                refine TR.p 13 rfl (by kernel_rfl) (DP.as (by conv => lhs; whnf)) ?_
                refine TR.done (by kernel_rfl) ?_
                refine TQ.nn ?_
                refine T.ret ?_
                refine TQ.br ?_
                refine TQ.nr ?_
                refine TQ.ret (vs := [.bool true]) (L' := [memA p (writeE bs lt t.at_ t.s true 12).2 lt, refA r (writeE bs lt t.at_ t.s true 12).2 lt]) rfl ⟨rfl, rfl⟩ ⟨rfl, (writeE bs lt t.at_ t.s true 12).2, lt, writeE_len _ _ _ _ _ _, rfl⟩ (by (refine Ent.imp ?_; repeat first | exact Imp.refl _ | exact Imp.nil _ | (apply Imp.pull; focus ((repeat first | exact Del.head _ _ | apply Del.tail); done)) | (apply Imp.row; focus ((repeat first | exact Del.head _ _ | apply Del.tail); done)) | apply Imp.drop))
              · refine T.skip ?_
                refine TQ.bn ?_
                refine TQ.nn ?_
                refine T.seq ?_
                refine T.seq ?_
                refine T.reg ?_
                refine TO.p (DP.mv (by conv => lhs; whnf)) ?_
                refine TO.p (DP.peq0 rfl rfl Try.underlying46) ?_
                refine TO.nil ?_
                refine TQ.nn ?_
                refine T.condT rfl ?_
                refine T.seq ?_
                refine T.reg ?_
                refine TO.p (DP.as (by conv => lhs; whnf)) ?_
                refine TO.nil ?_
                refine TQ.nn ?_
                refine T.ret ?_
                refine TQ.nr ?_
                refine TQ.ret (vs := [.bool true]) (L' := [memA p bs lt, refA r bs lt]) rfl ⟨rfl, rfl⟩ ⟨rfl, bs, lt, rfl, rfl⟩ (by (refine Ent.imp ?_; repeat first | exact Imp.refl _ | exact Imp.nil _ | (apply Imp.pull; focus ((repeat first | exact Del.head _ _ | apply Del.tail); done)) | (apply Imp.row; focus ((repeat first | exact Del.head _ _ | apply Del.tail); done)) | apply Imp.drop))

theorem step_pool (p r : Nat) (q q2 at0 sz : Nat) (wh : List UInt8) (bs : List UInt8) (lt : List Bool) (t : Stp) (ht : t.ok) :
    Sat Try.prog 28 [.pointer (some ⟨p, 0, none⟩), .pointer (some ⟨r, 0, none⟩), .pointer (some ⟨q, 0, none⟩), .pointer (some ⟨q2, 0, none⟩), .agg #[.int .i64 t.dd, .int .u32 t.at_, .int .i64 t.n, .int .u64 t.x, str t.s]] [memA p bs lt, refA r bs lt, poolA q p at0 sz wh bs.length, rpoolA q2 r at0 sz wh bs.length] (fun u L' => u = .bool true ∧ ∃ bs' lt' wh', bs'.length = bs.length ∧ wh'.length = wh.length ∧ L' = [memA p bs' lt', refA r bs' lt', poolA q p at0 sz wh' bs.length, rpoolA q2 r at0 sz wh' bs.length]) := by
  refine Sat.enter Try.func28 rfl Try.ntmps28 rfl (fun c R => ?_)
  try simp only [List.cons_append, List.nil_append]
  have hat := ht.at_
  have hn1 := ht.n1
  have hn2 := ht.n2
  have hxx := ht.x
  have hss := ht.s
  have hun := u32N_lt t.n
  refine T.seq ?_
  refine T.reg ?_
  refine TO.n (N.bxA rfl) ?_
  rintro _ _ ⟨b9, rfl, rfl⟩
  refine TO.p (DP.as (by conv => lhs; whnf)) ?_
  refine TO.nil ?_
  refine TQ.nn ?_
  refine T.seq ?_
  refine T.seq ?_
  refine T.reg ?_
  refine TO.p (DP.fa 0 rfl Try.underlying33 rfl rfl sz3) ?_
  refine TO.d (D.ldR rfl pl3 (by (repeat first | exact LMem.head _ _ | apply LMem.tail)) (by rfl)) ?_
  refine TO.nil ?_
  refine TQ.nn ?_
  refine T.block ?_
  refine T.seq ?_
  refine T.reg ?_
  refine TO.p (DP.eqlI rfl rfl) ?_
  refine TO.p (DP.as (by conv => lhs; whnf)) ?_
  refine TO.nil ?_
  refine TQ.nn ?_
  refine T.condD rfl (fun hc0 => ?_) (fun hc0 => ?_)
  · refine T.seq ?_
    refine T.reg ?_
    refine TO.p (DP.mv (by conv => lhs; whnf)) ?_
    refine TO.p (DP.fa 1 rfl Try.underlying33 rfl rfl sz30) ?_
    refine TO.d (D.ldR rfl pl30 (by (repeat first | exact LMem.head _ _ | apply LMem.tail)) (by rfl)) ?_
    refine TO.p (DP.fa 2 rfl Try.underlying33 rfl rfl sz3) ?_
    refine TO.d (D.ldR rfl pl3 (by (repeat first | exact LMem.head _ _ | apply LMem.tail)) (by rfl)) ?_
    refine TO.n (N.callF (readA p t.at_ t.n bs lt hat hn2) Try.call10 ⟨rfl, rfl, rfl, trivial⟩ (by (repeat first | exact Pick.nil _ | (apply Pick.cons; focus ((repeat first | exact Del.head _ _ | apply Del.tail); done))))) ?_
    rintro u33 _ ⟨_, ⟨rfl, rfl⟩, rfl⟩
    try simp only [List.cons_append, List.nil_append]
    refine TO.p (DP.mv (by conv => lhs; whnf)) ?_
    refine TO.p (DP.ex rfl rfl) ?_
    refine TO.p (DP.ex rfl rfl) ?_
    refine TO.p (DP.as (by conv => lhs; whnf)) ?_
    refine TO.p (DP.as (by conv => lhs; whnf)) ?_
    refine TO.nil ?_
    refine TQ.nn ?_
    refine T.seq ?_
    refine T.reg ?_
    refine TO.p (DP.mv (by conv => lhs; whnf)) ?_
    refine TO.p (DP.fa 1 rfl Try.underlying33 rfl rfl sz30) ?_
    refine TO.d (D.ldR rfl pl30 (by (repeat first | exact LMem.head _ _ | apply LMem.tail)) (by rfl)) ?_
    refine TO.p (DP.fa 2 rfl Try.underlying33 rfl rfl sz3) ?_
    refine TO.d (D.ldR rfl pl3 (by (repeat first | exact LMem.head _ _ | apply LMem.tail)) (by rfl)) ?_
    refine TO.n (N.callF (rreadA r t.at_ t.n bs lt hat hn2) Try.call54 ⟨rfl, rfl, rfl, trivial⟩ (by (repeat first | exact Pick.nil _ | (apply Pick.cons; focus ((repeat first | exact Del.head _ _ | apply Del.tail); done))))) ?_
    rintro u42 _ ⟨_, ⟨rfl, rfl⟩, rfl⟩
    try simp only [List.cons_append, List.nil_append]
    refine TO.p (DP.mv (by conv => lhs; whnf)) ?_
    refine TO.p (DP.ex rfl rfl) ?_
    refine TO.p (DP.ex rfl rfl) ?_
    refine TO.p (DP.as (by conv => lhs; whnf)) ?_
    refine TO.p (DP.as (by conv => lhs; whnf)) ?_
    refine TO.nil ?_
    refine TQ.nn ?_
    refine T.seq ?_
    refine T.reg ?_
    refine TO.p (DP.mv (by conv => lhs; whnf)) ?_
    refine TO.p (DP.mv (by conv => lhs; whnf)) ?_
    refine TO.p (DP.to (v' := .bool true) (DP.teql rfl rfl) (by simp)) ?_
    refine TO.p (DP.mv (by conv => lhs; whnf)) ?_
    refine TO.onP rfl (DP.mv (by conv => lhs; whnf)) ?_
    refine TO.onP rfl (DP.mv (by conv => lhs; whnf)) ?_
    refine TO.onP rfl (DP.to (v' := .bool true) (DP.eql rfl rfl) (by simp)) ?_
    refine TO.p (DP.pkT rfl (by conv => lhs; whnf)) ?_
    refine TO.p (DP.as (by conv => lhs; whnf)) ?_
    refine TO.nil ?_
    refine TQ.nn ?_
    refine T.ret ?_
    refine TQ.br ?_
    refine TQ.nr ?_
    refine TQ.ret (vs := [.bool true]) (L' := [memA p bs lt, refA r bs lt, poolA q p at0 sz wh bs.length, rpoolA q2 r at0 sz wh bs.length]) rfl ⟨rfl, rfl⟩ ⟨rfl, bs, lt, wh, rfl, rfl, rfl⟩ (by (refine Ent.imp ?_; repeat first | exact Imp.refl _ | exact Imp.nil _ | (apply Imp.pull; focus ((repeat first | exact Del.head _ _ | apply Del.tail); done)) | (apply Imp.row; focus ((repeat first | exact Del.head _ _ | apply Del.tail); done)) | apply Imp.drop))
  · refine T.seq ?_
    refine T.reg ?_
    refine TO.p (DP.eqlI rfl rfl) ?_
    refine TO.p (DP.as (by conv => lhs; whnf)) ?_
    refine TO.nil ?_
    refine TQ.nn ?_
    refine T.condD rfl (fun hc1 => ?_) (fun hc1 => ?_)
    · refine T.seq ?_
      refine T.reg ?_
      refine TO.p (DP.mv (by conv => lhs; whnf)) ?_
      refine TO.p (DP.fa 1 rfl Try.underlying33 rfl rfl sz30) ?_
      refine TO.d (D.ldR rfl pl30 (by (repeat first | exact LMem.head _ _ | apply LMem.tail)) (by rfl)) ?_
      refine TO.p (DP.fa 2 rfl Try.underlying33 rfl rfl sz3) ?_
      refine TO.d (D.ldR rfl pl3 (by (repeat first | exact LMem.head _ _ | apply LMem.tail)) (by rfl)) ?_
      refine TO.n (N.callF (number_spec p t.at_ t.n bs lt hat) Try.call55 ⟨rfl, rfl, rfl, trivial⟩ (by (repeat first | exact Pick.nil _ | (apply Pick.cons; focus ((repeat first | exact Del.head _ _ | apply Del.tail); done))))) ?_
      rintro u61 _ ⟨_, ⟨rfl, rfl⟩, rfl⟩
      try simp only [List.cons_append, List.nil_append]
      refine TO.p (DP.mv (by conv => lhs; whnf)) ?_
      refine TO.p (DP.ex rfl rfl) ?_
      refine TO.p (DP.ex rfl rfl) ?_
      refine TO.p (DP.as (by conv => lhs; whnf)) ?_
      refine TO.p (DP.as (by conv => lhs; whnf)) ?_
      refine TO.nil ?_
      refine TQ.nn ?_
      refine T.seq ?_
      refine T.draw ([row 33 b9 [.int .i64 t.dd, .int .u32 t.at_, .int .i64 t.n, .int .u64 t.x, str t.s]]) [6] mixed (by repeat first | exact Calm.rt | apply Calm.t | apply Calm.b | apply Calm.l | apply Calm.ct) ?_
      refine TR.p 0 rfl (by kernel_rfl) (DP.mv (by conv => lhs; whnf)) ?_
      refine TR.p 1 rfl (by kernel_rfl) (DP.fa 1 rfl Try.underlying33 rfl rfl sz30) ?_
      refine TR.d 2 rfl (by kernel_rfl) (by kernel_rfl) (by (refine Ent.imp ?_; repeat first | exact Imp.refl _ | exact Imp.nil _ | (apply Imp.pull; focus ((repeat first | exact Del.head _ _ | apply Del.tail); done)) | (apply Imp.row; focus ((repeat first | exact Del.head _ _ | apply Del.tail); done)) | apply Imp.drop)) (D.ldR rfl pl30 (by (repeat first | exact LMem.head _ _ | apply LMem.tail)) (by rfl)) ?_
      refine TR.p 3 rfl (by kernel_rfl) (DP.fa 2 rfl Try.underlying33 rfl rfl sz3) ?_
      refine TR.d 4 rfl (by kernel_rfl) (by kernel_rfl) (by (refine Ent.imp ?_; repeat first | exact Imp.refl _ | exact Imp.nil _ | (apply Imp.pull; focus ((repeat first | exact Del.head _ _ | apply Del.tail); done)) | (apply Imp.row; focus ((repeat first | exact Del.head _ _ | apply Del.tail); done)) | apply Imp.drop)) (D.ldR rfl pl3 (by (repeat first | exact LMem.head _ _ | apply LMem.tail)) (by rfl)) ?_
      refine TR.n 5 (by kernel_rfl) rfl (N.callF (wide_spec t.n) Try.call57 ⟨rfl, trivial⟩ (by (repeat first | exact Pick.nil _ | (apply Pick.cons; focus ((repeat first | exact Del.head _ _ | apply Del.tail); done))))) ?_
      rintro u70 _ ⟨_, ⟨rfl, rfl⟩, rfl⟩
      try simp only [List.cons_append, List.nil_append]
      refine ⟨.inr (by (refine Ent.imp ?_; repeat first | exact Imp.refl _ | exact Imp.nil _ | (apply Imp.pull; focus ((repeat first | exact Del.head _ _ | apply Del.tail); done)) | (apply Imp.row; focus ((repeat first | exact Del.head _ _ | apply Del.tail); done)) | apply Imp.drop)), ?_⟩
      refine TR.n 6 (by kernel_rfl) rfl (N.callF (rnumA r t.at_ (wideN t.n) bs lt hat (wideN_le t.n)) Try.call56 ⟨rfl, rfl, rfl, trivial⟩ (by (repeat first | exact Pick.nil _ | (apply Pick.cons; focus ((repeat first | exact Del.head _ _ | apply Del.tail); done))))) ?_
      rintro u71 _ ⟨_, ⟨rfl, rfl⟩, rfl⟩
      try simp only [List.cons_append, List.nil_append]
      refine ⟨.inl rfl, ?_⟩
      refine TR.p 7 rfl (by kernel_rfl) (DP.mv (by conv => lhs; whnf)) ?_
      refine TR.p 8 rfl (by kernel_rfl) (DP.ex rfl rfl) ?_
      refine TR.p 9 rfl (by kernel_rfl) (DP.ex rfl rfl) ?_
      refine TR.p 10 rfl (by kernel_rfl) (DP.as (by conv => lhs; whnf)) ?_
      refine TR.p 11 rfl (by kernel_rfl) (DP.as (by conv => lhs; whnf)) ?_
      refine TR.done (by kernel_rfl) ?_
      refine TQ.nn ?_
      refine T.seq ?_
      refine T.reg ?_
      refine TO.p (DP.mv (by conv => lhs; whnf)) ?_
      refine TO.p (DP.mv (by conv => lhs; whnf)) ?_
      refine TO.p (DP.to (v' := .bool true) (DP.eql rfl rfl) (by simp)) ?_
      refine TO.p (DP.mv (by conv => lhs; whnf)) ?_
      refine TO.onP rfl (DP.mv (by conv => lhs; whnf)) ?_
      refine TO.onP rfl (DP.mv (by conv => lhs; whnf)) ?_
      refine TO.onP rfl (DP.to (v' := .bool true) (DP.eql rfl rfl) (by simp)) ?_
      refine TO.p (DP.pkT rfl (by conv => lhs; whnf)) ?_
      refine TO.p (DP.as (by conv => lhs; whnf)) ?_
      refine TO.nil ?_
      refine TQ.nn ?_
      refine T.ret ?_
      refine TQ.br ?_
      refine TQ.nr ?_
      refine TQ.ret (vs := [.bool true]) (L' := [memA p bs lt, refA r bs lt, poolA q p at0 sz wh bs.length, rpoolA q2 r at0 sz wh bs.length]) rfl ⟨rfl, rfl⟩ ⟨rfl, bs, lt, wh, rfl, rfl, rfl⟩ (by (refine Ent.imp ?_; repeat first | exact Imp.refl _ | exact Imp.nil _ | (apply Imp.pull; focus ((repeat first | exact Del.head _ _ | apply Del.tail); done)) | (apply Imp.row; focus ((repeat first | exact Del.head _ _ | apply Del.tail); done)) | apply Imp.drop))
    · refine T.seq ?_
      refine T.reg ?_
      refine TO.p (DP.eqlI rfl rfl) ?_
      refine TO.p (DP.as (by conv => lhs; whnf)) ?_
      refine TO.nil ?_
      refine TQ.nn ?_
      refine T.condD rfl (fun hc2 => ?_) (fun hc2 => ?_)
      · refine T.seq ?_
        refine T.draw ([row 33 b9 [.int .i64 t.dd, .int .u32 t.at_, .int .i64 t.n, .int .u64 t.x, str t.s]]) [11] mixed (by repeat first | exact Calm.rt | apply Calm.t | apply Calm.b | apply Calm.l | apply Calm.ct) ?_
        refine TR.p 0 rfl (by kernel_rfl) (DP.mv (by conv => lhs; whnf)) ?_
        refine TR.p 1 rfl (by kernel_rfl) (DP.fa 1 rfl Try.underlying33 rfl rfl sz30) ?_
        refine TR.d 2 rfl (by kernel_rfl) (by kernel_rfl) (by (refine Ent.imp ?_; repeat first | exact Imp.refl _ | exact Imp.nil _ | (apply Imp.pull; focus ((repeat first | exact Del.head _ _ | apply Del.tail); done)) | (apply Imp.row; focus ((repeat first | exact Del.head _ _ | apply Del.tail); done)) | apply Imp.drop)) (D.ldR rfl pl30 (by (repeat first | exact LMem.head _ _ | apply LMem.tail)) (by rfl)) ?_
        refine TR.p 3 rfl (by kernel_rfl) (DP.fa 4 rfl Try.underlying33 rfl rfl sz9) ?_
        refine TR.d 4 rfl (by kernel_rfl) (by kernel_rfl) (by (refine Ent.imp ?_; repeat first | exact Imp.refl _ | exact Imp.nil _ | (apply Imp.pull; focus ((repeat first | exact Del.head _ _ | apply Del.tail); done)) | (apply Imp.row; focus ((repeat first | exact Del.head _ _ | apply Del.tail); done)) | apply Imp.drop)) (D.ldR rfl pl9 (by (repeat first | exact LMem.head _ _ | apply LMem.tail)) (by rfl)) ?_
        refine TR.p 6 rfl (by kernel_rfl) (DP.mv (by conv => lhs; whnf)) ?_
        refine TR.p 7 rfl (by kernel_rfl) (DP.fa 1 rfl Try.underlying33 rfl rfl sz30) ?_
        refine TR.d 8 rfl (by kernel_rfl) (by kernel_rfl) (by (refine Ent.imp ?_; repeat first | exact Imp.refl _ | exact Imp.nil _ | (apply Imp.pull; focus ((repeat first | exact Del.head _ _ | apply Del.tail); done)) | (apply Imp.row; focus ((repeat first | exact Del.head _ _ | apply Del.tail); done)) | apply Imp.drop)) (D.ldR rfl pl30 (by (repeat first | exact LMem.head _ _ | apply LMem.tail)) (by rfl)) ?_
        refine TR.p 9 rfl (by kernel_rfl) (DP.fa 4 rfl Try.underlying33 rfl rfl sz9) ?_
        refine TR.d 10 rfl (by kernel_rfl) (by kernel_rfl) (by (refine Ent.imp ?_; repeat first | exact Imp.refl _ | exact Imp.nil _ | (apply Imp.pull; focus ((repeat first | exact Del.head _ _ | apply Del.tail); done)) | (apply Imp.row; focus ((repeat first | exact Del.head _ _ | apply Del.tail); done)) | apply Imp.drop)) (D.ldR rfl pl9 (by (repeat first | exact LMem.head _ _ | apply LMem.tail)) (by rfl)) ?_
        refine TR.n 5 (by kernel_rfl) rfl (N.callF (writeA p t.at_ t.s bs lt hat (by omega)) Try.call12 ⟨rfl, rfl, rfl, trivial⟩ (by (repeat first | exact Pick.nil _ | (apply Pick.cons; focus ((repeat first | exact Del.head _ _ | apply Del.tail); done))))) ?_
        rintro u89 _ ⟨_, ⟨rfl, rfl⟩, rfl⟩
        try simp only [List.cons_append, List.nil_append]
        refine ⟨.inr (by (refine Ent.imp ?_; repeat first | exact Imp.refl _ | exact Imp.nil _ | (apply Imp.pull; focus ((repeat first | exact Del.head _ _ | apply Del.tail); done)) | (apply Imp.row; focus ((repeat first | exact Del.head _ _ | apply Del.tail); done)) | apply Imp.drop)), ?_⟩
        refine TR.n 11 (by kernel_rfl) rfl (N.callF (rwriteA r t.at_ t.s bs lt hat (by omega)) Try.call58 ⟨rfl, rfl, rfl, trivial⟩ (by (repeat first | exact Pick.nil _ | (apply Pick.cons; focus ((repeat first | exact Del.head _ _ | apply Del.tail); done))))) ?_
        rintro u95 _ ⟨_, ⟨rfl, rfl⟩, rfl⟩
        try simp only [List.cons_append, List.nil_append]
        refine ⟨.inl rfl, ?_⟩
        refine TR.p 12 rfl (by kernel_rfl) (DP.to (v' := .bool true) (DP.eql rfl rfl) (by simp)) ?_
        refine TR.p 13 rfl (by kernel_rfl) (DP.as (by conv => lhs; whnf)) ?_
        refine TR.done (by kernel_rfl) ?_
        refine TQ.nn ?_
        refine T.ret ?_
        refine TQ.br ?_
        refine TQ.nr ?_
        refine TQ.ret (vs := [.bool true]) (L' := [memA p (writeE bs lt t.at_ t.s false 11).2 lt, refA r (writeE bs lt t.at_ t.s false 11).2 lt, poolA q p at0 sz wh bs.length, rpoolA q2 r at0 sz wh bs.length]) rfl ⟨rfl, rfl⟩ ⟨rfl, (writeE bs lt t.at_ t.s false 11).2, lt, wh, writeE_len _ _ _ _ _ _, rfl, rfl⟩ (by (refine Ent.imp ?_; repeat first | exact Imp.refl _ | exact Imp.nil _ | (apply Imp.pull; focus ((repeat first | exact Del.head _ _ | apply Del.tail); done)) | (apply Imp.row; focus ((repeat first | exact Del.head _ _ | apply Del.tail); done)) | apply Imp.drop))
      · refine T.seq ?_
        refine T.reg ?_
        refine TO.p (DP.eqlI rfl rfl) ?_
        refine TO.p (DP.as (by conv => lhs; whnf)) ?_
        refine TO.nil ?_
        refine TQ.nn ?_
        refine T.condD rfl (fun hc3 => ?_) (fun hc3 => ?_)
        · refine T.seq ?_
          refine T.draw ([row 33 b9 [.int .i64 t.dd, .int .u32 t.at_, .int .i64 t.n, .int .u64 t.x, str t.s]]) [17] mixed (by repeat first | exact Calm.rt | apply Calm.t | apply Calm.b | apply Calm.l | apply Calm.ct) ?_
          refine TR.p 0 rfl (by kernel_rfl) (DP.mv (by conv => lhs; whnf)) ?_
          refine TR.p 1 rfl (by kernel_rfl) (DP.fa 1 rfl Try.underlying33 rfl rfl sz30) ?_
          refine TR.d 2 rfl (by kernel_rfl) (by kernel_rfl) (by (refine Ent.imp ?_; repeat first | exact Imp.refl _ | exact Imp.nil _ | (apply Imp.pull; focus ((repeat first | exact Del.head _ _ | apply Del.tail); done)) | (apply Imp.row; focus ((repeat first | exact Del.head _ _ | apply Del.tail); done)) | apply Imp.drop)) (D.ldR rfl pl30 (by (repeat first | exact LMem.head _ _ | apply LMem.tail)) (by rfl)) ?_
          refine TR.p 3 rfl (by kernel_rfl) (DP.fa 2 rfl Try.underlying33 rfl rfl sz3) ?_
          refine TR.d 4 rfl (by kernel_rfl) (by kernel_rfl) (by (refine Ent.imp ?_; repeat first | exact Imp.refl _ | exact Imp.nil _ | (apply Imp.pull; focus ((repeat first | exact Del.head _ _ | apply Del.tail); done)) | (apply Imp.row; focus ((repeat first | exact Del.head _ _ | apply Del.tail); done)) | apply Imp.drop)) (D.ldR rfl pl3 (by (repeat first | exact LMem.head _ _ | apply LMem.tail)) (by rfl)) ?_
          refine TR.p 5 rfl (by kernel_rfl) (DP.fa 3 rfl Try.underlying33 rfl rfl sz31) ?_
          refine TR.d 6 rfl (by kernel_rfl) (by kernel_rfl) (by (refine Ent.imp ?_; repeat first | exact Imp.refl _ | exact Imp.nil _ | (apply Imp.pull; focus ((repeat first | exact Del.head _ _ | apply Del.tail); done)) | (apply Imp.row; focus ((repeat first | exact Del.head _ _ | apply Del.tail); done)) | apply Imp.drop)) (D.ldR rfl pl31 (by (repeat first | exact LMem.head _ _ | apply LMem.tail)) (by rfl)) ?_
          refine TR.p 8 rfl (by kernel_rfl) (DP.mv (by conv => lhs; whnf)) ?_
          refine TR.p 9 rfl (by kernel_rfl) (DP.fa 1 rfl Try.underlying33 rfl rfl sz30) ?_
          refine TR.d 10 rfl (by kernel_rfl) (by kernel_rfl) (by (refine Ent.imp ?_; repeat first | exact Imp.refl _ | exact Imp.nil _ | (apply Imp.pull; focus ((repeat first | exact Del.head _ _ | apply Del.tail); done)) | (apply Imp.row; focus ((repeat first | exact Del.head _ _ | apply Del.tail); done)) | apply Imp.drop)) (D.ldR rfl pl30 (by (repeat first | exact LMem.head _ _ | apply LMem.tail)) (by rfl)) ?_
          refine TR.p 11 rfl (by kernel_rfl) (DP.fa 3 rfl Try.underlying33 rfl rfl sz31) ?_
          refine TR.d 12 rfl (by kernel_rfl) (by kernel_rfl) (by (refine Ent.imp ?_; repeat first | exact Imp.refl _ | exact Imp.nil _ | (apply Imp.pull; focus ((repeat first | exact Del.head _ _ | apply Del.tail); done)) | (apply Imp.row; focus ((repeat first | exact Del.head _ _ | apply Del.tail); done)) | apply Imp.drop)) (D.ldR rfl pl31 (by (repeat first | exact LMem.head _ _ | apply LMem.tail)) (by rfl)) ?_
          refine TR.p 13 rfl (by kernel_rfl) (DP.fa 2 rfl Try.underlying33 rfl rfl sz3) ?_
          refine TR.d 14 rfl (by kernel_rfl) (by kernel_rfl) (by (refine Ent.imp ?_; repeat first | exact Imp.refl _ | exact Imp.nil _ | (apply Imp.pull; focus ((repeat first | exact Del.head _ _ | apply Del.tail); done)) | (apply Imp.row; focus ((repeat first | exact Del.head _ _ | apply Del.tail); done)) | apply Imp.drop)) (D.ldR rfl pl3 (by (repeat first | exact LMem.head _ _ | apply LMem.tail)) (by rfl)) ?_
          refine TR.n 7 (by kernel_rfl) rfl (N.callF (put_spec p t.at_ t.x t.n bs lt hat hxx) Try.call13 ⟨rfl, rfl, rfl, rfl, trivial⟩ (by (repeat first | exact Pick.nil _ | (apply Pick.cons; focus ((repeat first | exact Del.head _ _ | apply Del.tail); done))))) ?_
          rintro u106 _ ⟨_, ⟨rfl, rfl⟩, rfl⟩
          try simp only [List.cons_append, List.nil_append]
          refine ⟨.inr (by (refine Ent.imp ?_; repeat first | exact Imp.refl _ | exact Imp.nil _ | (apply Imp.pull; focus ((repeat first | exact Del.head _ _ | apply Del.tail); done)) | (apply Imp.row; focus ((repeat first | exact Del.head _ _ | apply Del.tail); done)) | apply Imp.drop)), ?_⟩
          refine TR.n 15 (by kernel_rfl) rfl (N.callF (wide_spec t.n) Try.call57 ⟨rfl, trivial⟩ (by (repeat first | exact Pick.nil _ | (apply Pick.cons; focus ((repeat first | exact Del.head _ _ | apply Del.tail); done))))) ?_
          rintro u114 _ ⟨_, ⟨rfl, rfl⟩, rfl⟩
          try simp only [List.cons_append, List.nil_append]
          refine ⟨.inr (by (refine Ent.imp ?_; repeat first | exact Imp.refl _ | exact Imp.nil _ | (apply Imp.pull; focus ((repeat first | exact Del.head _ _ | apply Del.tail); done)) | (apply Imp.row; focus ((repeat first | exact Del.head _ _ | apply Del.tail); done)) | apply Imp.drop)), ?_⟩
          refine TR.n 16 (by kernel_rfl) rfl (N.callF (rbytes t.x (wideN t.n) hxx (wideN_le t.n) (wideN_pos t.n)) Try.call59 ⟨rfl, rfl, trivial⟩ (by (repeat first | exact Pick.nil _ | (apply Pick.cons; focus ((repeat first | exact Del.head _ _ | apply Del.tail); done))))) ?_
          rintro u115 _ ⟨_, ⟨rfl, rfl⟩, rfl⟩
          try simp only [List.cons_append, List.nil_append]
          refine ⟨.inr (by (refine Ent.imp ?_; repeat first | exact Imp.refl _ | exact Imp.nil _ | (apply Imp.pull; focus ((repeat first | exact Del.head _ _ | apply Del.tail); done)) | (apply Imp.row; focus ((repeat first | exact Del.head _ _ | apply Del.tail); done)) | apply Imp.drop)), ?_⟩
          refine TR.n 17 (by kernel_rfl) rfl (N.callF (rwriteA r t.at_ (leB t.x (wideN t.n)) bs lt hat (by rw [leB_len]; have := wideN_le t.n; omega)) Try.call58 ⟨rfl, rfl, rfl, trivial⟩ (by (repeat first | exact Pick.nil _ | (apply Pick.cons; focus ((repeat first | exact Del.head _ _ | apply Del.tail); done))))) ?_
          rintro u116 _ ⟨_, ⟨rfl, rfl⟩, rfl⟩
          try simp only [List.cons_append, List.nil_append]
          refine ⟨.inl rfl, ?_⟩
          refine TR.p 18 rfl (by kernel_rfl) (DP.to (v' := .bool true) (DP.eql rfl rfl) (by simp)) ?_
          refine TR.p 19 rfl (by kernel_rfl) (DP.as (by conv => lhs; whnf)) ?_
          refine TR.done (by kernel_rfl) ?_
          refine TQ.nn ?_
          refine T.ret ?_
          refine TQ.br ?_
          refine TQ.nr ?_
          refine TQ.ret (vs := [.bool true]) (L' := [memA p (writeE bs lt t.at_ (leB t.x (wideN t.n)) false 11).2 lt, refA r (writeE bs lt t.at_ (leB t.x (wideN t.n)) false 11).2 lt, poolA q p at0 sz wh bs.length, rpoolA q2 r at0 sz wh bs.length]) rfl ⟨rfl, rfl⟩ ⟨rfl, (writeE bs lt t.at_ (leB t.x (wideN t.n)) false 11).2, lt, wh, writeE_len _ _ _ _ _ _, rfl, rfl⟩ (by (refine Ent.imp ?_; repeat first | exact Imp.refl _ | exact Imp.nil _ | (apply Imp.pull; focus ((repeat first | exact Del.head _ _ | apply Del.tail); done)) | (apply Imp.row; focus ((repeat first | exact Del.head _ _ | apply Del.tail); done)) | apply Imp.drop))
        · refine T.seq ?_
          refine T.reg ?_
          refine TO.p (DP.eqlI rfl rfl) ?_
          refine TO.p (DP.as (by conv => lhs; whnf)) ?_
          refine TO.nil ?_
          refine TQ.nn ?_
          refine T.condD rfl (fun hc4 => ?_) (fun hc4 => ?_)
          · refine T.seq ?_
            refine T.draw ([row 33 b9 [.int .i64 t.dd, .int .u32 t.at_, .int .i64 t.n, .int .u64 t.x, str t.s]]) [15] mixed (by repeat first | exact Calm.rt | apply Calm.t | apply Calm.b | apply Calm.l | apply Calm.ct) ?_
            refine TR.p 0 rfl (by kernel_rfl) (DP.mv (by conv => lhs; whnf)) ?_
            refine TR.p 1 rfl (by kernel_rfl) (DP.fa 1 rfl Try.underlying33 rfl rfl sz30) ?_
            refine TR.d 2 rfl (by kernel_rfl) (by kernel_rfl) (by (refine Ent.imp ?_; repeat first | exact Imp.refl _ | exact Imp.nil _ | (apply Imp.pull; focus ((repeat first | exact Del.head _ _ | apply Del.tail); done)) | (apply Imp.row; focus ((repeat first | exact Del.head _ _ | apply Del.tail); done)) | apply Imp.drop)) (D.ldR rfl pl30 (by (repeat first | exact LMem.head _ _ | apply LMem.tail)) (by rfl)) ?_
            refine TR.p 3 rfl (by kernel_rfl) (DP.fa 2 rfl Try.underlying33 rfl rfl sz3) ?_
            refine TR.d 4 rfl (by kernel_rfl) (by kernel_rfl) (by (refine Ent.imp ?_; repeat first | exact Imp.refl _ | exact Imp.nil _ | (apply Imp.pull; focus ((repeat first | exact Del.head _ _ | apply Del.tail); done)) | (apply Imp.row; focus ((repeat first | exact Del.head _ _ | apply Del.tail); done)) | apply Imp.drop)) (D.ldR rfl pl3 (by (repeat first | exact LMem.head _ _ | apply LMem.tail)) (by rfl)) ?_
            refine TR.p 5 rfl (by kernel_rfl) (DP.to (v' := .int .u32 ((u32N t.n : Nat) : Int)) (DP.cvX rfl is3 Try.underlying30) (by rw [u32N_wrap])) ?_
            refine TR.p 6 rfl (by kernel_rfl) (DP.bdL (vs := [(0, _), (1, _)]) (us := [_, _]) ⟨rfl, (by conv => lhs; whnf), rfl, (by conv => lhs; whnf), trivial⟩ pc42 zr42 rfl) ?_
            refine TR.p 8 rfl (by kernel_rfl) (DP.mv (by conv => lhs; whnf)) ?_
            refine TR.p 9 rfl (by kernel_rfl) (DP.fa 1 rfl Try.underlying33 rfl rfl sz30) ?_
            refine TR.d 10 rfl (by kernel_rfl) (by kernel_rfl) (by (refine Ent.imp ?_; repeat first | exact Imp.refl _ | exact Imp.nil _ | (apply Imp.pull; focus ((repeat first | exact Del.head _ _ | apply Del.tail); done)) | (apply Imp.row; focus ((repeat first | exact Del.head _ _ | apply Del.tail); done)) | apply Imp.drop)) (D.ldR rfl pl30 (by (repeat first | exact LMem.head _ _ | apply LMem.tail)) (by rfl)) ?_
            refine TR.p 11 rfl (by kernel_rfl) (DP.fa 2 rfl Try.underlying33 rfl rfl sz3) ?_
            refine TR.d 12 rfl (by kernel_rfl) (by kernel_rfl) (by (refine Ent.imp ?_; repeat first | exact Imp.refl _ | exact Imp.nil _ | (apply Imp.pull; focus ((repeat first | exact Del.head _ _ | apply Del.tail); done)) | (apply Imp.row; focus ((repeat first | exact Del.head _ _ | apply Del.tail); done)) | apply Imp.drop)) (D.ldR rfl pl3 (by (repeat first | exact LMem.head _ _ | apply LMem.tail)) (by rfl)) ?_
            refine TR.p 13 rfl (by kernel_rfl) (DP.to (v' := .int .u32 ((u32N t.n : Nat) : Int)) (DP.cvX rfl is3 Try.underlying30) (by rw [u32N_wrap])) ?_
            refine TR.p 14 rfl (by kernel_rfl) (DP.bdL (vs := [(0, _), (1, _)]) (us := [_, _]) ⟨rfl, (by conv => lhs; whnf), rfl, (by conv => lhs; whnf), trivial⟩ pc42 zr42 rfl) ?_
            refine TR.n 7 (by kernel_rfl) rfl (N.callF (lendA p t.at_ (u32N t.n) bs lt hat hun) Try.call14 ⟨rfl, rfl, trivial⟩ (by (repeat first | exact Pick.nil _ | (apply Pick.cons; focus ((repeat first | exact Del.head _ _ | apply Del.tail); done))))) ?_
            rintro u127 _ ⟨_, ⟨rfl, rfl⟩, rfl⟩
            try simp only [List.cons_append, List.nil_append]
            refine ⟨.inr (by (refine Ent.imp ?_; repeat first | exact Imp.refl _ | exact Imp.nil _ | (apply Imp.pull; focus ((repeat first | exact Del.head _ _ | apply Del.tail); done)) | (apply Imp.row; focus ((repeat first | exact Del.head _ _ | apply Del.tail); done)) | apply Imp.drop)), ?_⟩
            refine TR.n 15 (by kernel_rfl) rfl (N.callF (rlendA r t.at_ (u32N t.n) bs lt hat hun) Try.call60 ⟨rfl, rfl, trivial⟩ (by (repeat first | exact Pick.nil _ | (apply Pick.cons; focus ((repeat first | exact Del.head _ _ | apply Del.tail); done))))) ?_
            rintro u135 _ ⟨_, ⟨rfl, rfl⟩, rfl⟩
            try simp only [List.cons_append, List.nil_append]
            refine ⟨.inl rfl, ?_⟩
            refine TR.p 16 rfl (by kernel_rfl) (DP.to (v' := .bool true) (DP.eql rfl rfl) (by simp)) ?_
            refine TR.p 17 rfl (by kernel_rfl) (DP.as (by conv => lhs; whnf)) ?_
            refine TR.done (by kernel_rfl) ?_
            refine TQ.nn ?_
            refine T.ret ?_
            refine TQ.br ?_
            refine TQ.nr ?_
            refine TQ.ret (vs := [.bool true]) (L' := [memA p bs (turnE lt t.at_ (u32N t.n) true 11).2, refA r bs (turnE lt t.at_ (u32N t.n) true 11).2, poolA q p at0 sz wh bs.length, rpoolA q2 r at0 sz wh bs.length]) rfl ⟨rfl, rfl⟩ ⟨rfl, bs, (turnE lt t.at_ (u32N t.n) true 11).2, wh, rfl, rfl, rfl⟩ (by (refine Ent.imp ?_; repeat first | exact Imp.refl _ | exact Imp.nil _ | (apply Imp.pull; focus ((repeat first | exact Del.head _ _ | apply Del.tail); done)) | (apply Imp.row; focus ((repeat first | exact Del.head _ _ | apply Del.tail); done)) | apply Imp.drop))
          · refine T.seq ?_
            refine T.reg ?_
            refine TO.p (DP.eqlI rfl rfl) ?_
            refine TO.p (DP.as (by conv => lhs; whnf)) ?_
            refine TO.nil ?_
            refine TQ.nn ?_
            refine T.condD rfl (fun hc5 => ?_) (fun hc5 => ?_)
            · refine T.seq ?_
              refine T.draw ([row 33 b9 [.int .i64 t.dd, .int .u32 t.at_, .int .i64 t.n, .int .u64 t.x, str t.s]]) [15] mixed (by repeat first | exact Calm.rt | apply Calm.t | apply Calm.b | apply Calm.l | apply Calm.ct) ?_
              refine TR.p 0 rfl (by kernel_rfl) (DP.mv (by conv => lhs; whnf)) ?_
              refine TR.p 1 rfl (by kernel_rfl) (DP.fa 1 rfl Try.underlying33 rfl rfl sz30) ?_
              refine TR.d 2 rfl (by kernel_rfl) (by kernel_rfl) (by (refine Ent.imp ?_; repeat first | exact Imp.refl _ | exact Imp.nil _ | (apply Imp.pull; focus ((repeat first | exact Del.head _ _ | apply Del.tail); done)) | (apply Imp.row; focus ((repeat first | exact Del.head _ _ | apply Del.tail); done)) | apply Imp.drop)) (D.ldR rfl pl30 (by (repeat first | exact LMem.head _ _ | apply LMem.tail)) (by rfl)) ?_
              refine TR.p 3 rfl (by kernel_rfl) (DP.fa 2 rfl Try.underlying33 rfl rfl sz3) ?_
              refine TR.d 4 rfl (by kernel_rfl) (by kernel_rfl) (by (refine Ent.imp ?_; repeat first | exact Imp.refl _ | exact Imp.nil _ | (apply Imp.pull; focus ((repeat first | exact Del.head _ _ | apply Del.tail); done)) | (apply Imp.row; focus ((repeat first | exact Del.head _ _ | apply Del.tail); done)) | apply Imp.drop)) (D.ldR rfl pl3 (by (repeat first | exact LMem.head _ _ | apply LMem.tail)) (by rfl)) ?_
              refine TR.p 5 rfl (by kernel_rfl) (DP.to (v' := .int .u32 ((u32N t.n : Nat) : Int)) (DP.cvX rfl is3 Try.underlying30) (by rw [u32N_wrap])) ?_
              refine TR.p 6 rfl (by kernel_rfl) (DP.bdL (vs := [(0, _), (1, _)]) (us := [_, _]) ⟨rfl, (by conv => lhs; whnf), rfl, (by conv => lhs; whnf), trivial⟩ pc42 zr42 rfl) ?_
              refine TR.p 8 rfl (by kernel_rfl) (DP.mv (by conv => lhs; whnf)) ?_
              refine TR.p 9 rfl (by kernel_rfl) (DP.fa 1 rfl Try.underlying33 rfl rfl sz30) ?_
              refine TR.d 10 rfl (by kernel_rfl) (by kernel_rfl) (by (refine Ent.imp ?_; repeat first | exact Imp.refl _ | exact Imp.nil _ | (apply Imp.pull; focus ((repeat first | exact Del.head _ _ | apply Del.tail); done)) | (apply Imp.row; focus ((repeat first | exact Del.head _ _ | apply Del.tail); done)) | apply Imp.drop)) (D.ldR rfl pl30 (by (repeat first | exact LMem.head _ _ | apply LMem.tail)) (by rfl)) ?_
              refine TR.p 11 rfl (by kernel_rfl) (DP.fa 2 rfl Try.underlying33 rfl rfl sz3) ?_
              refine TR.d 12 rfl (by kernel_rfl) (by kernel_rfl) (by (refine Ent.imp ?_; repeat first | exact Imp.refl _ | exact Imp.nil _ | (apply Imp.pull; focus ((repeat first | exact Del.head _ _ | apply Del.tail); done)) | (apply Imp.row; focus ((repeat first | exact Del.head _ _ | apply Del.tail); done)) | apply Imp.drop)) (D.ldR rfl pl3 (by (repeat first | exact LMem.head _ _ | apply LMem.tail)) (by rfl)) ?_
              refine TR.p 13 rfl (by kernel_rfl) (DP.to (v' := .int .u32 ((u32N t.n : Nat) : Int)) (DP.cvX rfl is3 Try.underlying30) (by rw [u32N_wrap])) ?_
              refine TR.p 14 rfl (by kernel_rfl) (DP.bdL (vs := [(0, _), (1, _)]) (us := [_, _]) ⟨rfl, (by conv => lhs; whnf), rfl, (by conv => lhs; whnf), trivial⟩ pc42 zr42 rfl) ?_
              refine TR.n 7 (by kernel_rfl) rfl (N.callF (backA p t.at_ (u32N t.n) bs lt hat hun) Try.call15 ⟨rfl, rfl, trivial⟩ (by (repeat first | exact Pick.nil _ | (apply Pick.cons; focus ((repeat first | exact Del.head _ _ | apply Del.tail); done))))) ?_
              rintro u146 _ ⟨_, ⟨rfl, rfl⟩, rfl⟩
              try simp only [List.cons_append, List.nil_append]
              refine ⟨.inr (by (refine Ent.imp ?_; repeat first | exact Imp.refl _ | exact Imp.nil _ | (apply Imp.pull; focus ((repeat first | exact Del.head _ _ | apply Del.tail); done)) | (apply Imp.row; focus ((repeat first | exact Del.head _ _ | apply Del.tail); done)) | apply Imp.drop)), ?_⟩
              refine TR.n 15 (by kernel_rfl) rfl (N.callF (rbackA r t.at_ (u32N t.n) bs lt hat hun) Try.call61 ⟨rfl, rfl, trivial⟩ (by (repeat first | exact Pick.nil _ | (apply Pick.cons; focus ((repeat first | exact Del.head _ _ | apply Del.tail); done))))) ?_
              rintro u154 _ ⟨_, ⟨rfl, rfl⟩, rfl⟩
              try simp only [List.cons_append, List.nil_append]
              refine ⟨.inl rfl, ?_⟩
              refine TR.p 16 rfl (by kernel_rfl) (DP.to (v' := .bool true) (DP.eql rfl rfl) (by simp)) ?_
              refine TR.p 17 rfl (by kernel_rfl) (DP.as (by conv => lhs; whnf)) ?_
              refine TR.done (by kernel_rfl) ?_
              refine TQ.nn ?_
              refine T.ret ?_
              refine TQ.br ?_
              refine TQ.nr ?_
              refine TQ.ret (vs := [.bool true]) (L' := [memA p bs (turnE lt t.at_ (u32N t.n) false 12).2, refA r bs (turnE lt t.at_ (u32N t.n) false 12).2, poolA q p at0 sz wh bs.length, rpoolA q2 r at0 sz wh bs.length]) rfl ⟨rfl, rfl⟩ ⟨rfl, bs, (turnE lt t.at_ (u32N t.n) false 12).2, wh, rfl, rfl, rfl⟩ (by (refine Ent.imp ?_; repeat first | exact Imp.refl _ | exact Imp.nil _ | (apply Imp.pull; focus ((repeat first | exact Del.head _ _ | apply Del.tail); done)) | (apply Imp.row; focus ((repeat first | exact Del.head _ _ | apply Del.tail); done)) | apply Imp.drop))
            · refine T.seq ?_
              refine T.reg ?_
              refine TO.p (DP.eqlI rfl rfl) ?_
              refine TO.p (DP.as (by conv => lhs; whnf)) ?_
              refine TO.nil ?_
              refine TQ.nn ?_
              refine T.condD rfl (fun hc6 => ?_) (fun hc6 => ?_)
              · refine T.seq ?_
                refine T.draw ([row 33 b9 [.int .i64 t.dd, .int .u32 t.at_, .int .i64 t.n, .int .u64 t.x, str t.s]]) [11] mixed (by repeat first | exact Calm.rt | apply Calm.t | apply Calm.b | apply Calm.l | apply Calm.ct) ?_
                refine TR.p 0 rfl (by kernel_rfl) (DP.mv (by conv => lhs; whnf)) ?_
                refine TR.p 1 rfl (by kernel_rfl) (DP.fa 1 rfl Try.underlying33 rfl rfl sz30) ?_
                refine TR.d 2 rfl (by kernel_rfl) (by kernel_rfl) (by (refine Ent.imp ?_; repeat first | exact Imp.refl _ | exact Imp.nil _ | (apply Imp.pull; focus ((repeat first | exact Del.head _ _ | apply Del.tail); done)) | (apply Imp.row; focus ((repeat first | exact Del.head _ _ | apply Del.tail); done)) | apply Imp.drop)) (D.ldR rfl pl30 (by (repeat first | exact LMem.head _ _ | apply LMem.tail)) (by rfl)) ?_
                refine TR.p 3 rfl (by kernel_rfl) (DP.fa 4 rfl Try.underlying33 rfl rfl sz9) ?_
                refine TR.d 4 rfl (by kernel_rfl) (by kernel_rfl) (by (refine Ent.imp ?_; repeat first | exact Imp.refl _ | exact Imp.nil _ | (apply Imp.pull; focus ((repeat first | exact Del.head _ _ | apply Del.tail); done)) | (apply Imp.row; focus ((repeat first | exact Del.head _ _ | apply Del.tail); done)) | apply Imp.drop)) (D.ldR rfl pl9 (by (repeat first | exact LMem.head _ _ | apply LMem.tail)) (by rfl)) ?_
                refine TR.p 6 rfl (by kernel_rfl) (DP.mv (by conv => lhs; whnf)) ?_
                refine TR.p 7 rfl (by kernel_rfl) (DP.fa 1 rfl Try.underlying33 rfl rfl sz30) ?_
                refine TR.d 8 rfl (by kernel_rfl) (by kernel_rfl) (by (refine Ent.imp ?_; repeat first | exact Imp.refl _ | exact Imp.nil _ | (apply Imp.pull; focus ((repeat first | exact Del.head _ _ | apply Del.tail); done)) | (apply Imp.row; focus ((repeat first | exact Del.head _ _ | apply Del.tail); done)) | apply Imp.drop)) (D.ldR rfl pl30 (by (repeat first | exact LMem.head _ _ | apply LMem.tail)) (by rfl)) ?_
                refine TR.p 9 rfl (by kernel_rfl) (DP.fa 4 rfl Try.underlying33 rfl rfl sz9) ?_
                refine TR.d 10 rfl (by kernel_rfl) (by kernel_rfl) (by (refine Ent.imp ?_; repeat first | exact Imp.refl _ | exact Imp.nil _ | (apply Imp.pull; focus ((repeat first | exact Del.head _ _ | apply Del.tail); done)) | (apply Imp.row; focus ((repeat first | exact Del.head _ _ | apply Del.tail); done)) | apply Imp.drop)) (D.ldR rfl pl9 (by (repeat first | exact LMem.head _ _ | apply LMem.tail)) (by rfl)) ?_
                refine TR.n 5 (by kernel_rfl) rfl (N.callF (deviceA p t.at_ t.s bs lt hat (by omega)) Try.call16 ⟨rfl, rfl, rfl, trivial⟩ (by (repeat first | exact Pick.nil _ | (apply Pick.cons; focus ((repeat first | exact Del.head _ _ | apply Del.tail); done))))) ?_
                rintro u163 _ ⟨_, ⟨rfl, rfl⟩, rfl⟩
                try simp only [List.cons_append, List.nil_append]
                refine ⟨.inr (by (refine Ent.imp ?_; repeat first | exact Imp.refl _ | exact Imp.nil _ | (apply Imp.pull; focus ((repeat first | exact Del.head _ _ | apply Del.tail); done)) | (apply Imp.row; focus ((repeat first | exact Del.head _ _ | apply Del.tail); done)) | apply Imp.drop)), ?_⟩
                refine TR.n 11 (by kernel_rfl) rfl (N.callF (rdeviceA r t.at_ t.s bs lt hat (by omega)) Try.call62 ⟨rfl, rfl, rfl, trivial⟩ (by (repeat first | exact Pick.nil _ | (apply Pick.cons; focus ((repeat first | exact Del.head _ _ | apply Del.tail); done))))) ?_
                rintro u169 _ ⟨_, ⟨rfl, rfl⟩, rfl⟩
                try simp only [List.cons_append, List.nil_append]
                refine ⟨.inl rfl, ?_⟩
                refine TR.p 12 rfl (by kernel_rfl) (DP.to (v' := .bool true) (DP.eql rfl rfl) (by simp)) ?_
                refine TR.p 13 rfl (by kernel_rfl) (DP.as (by conv => lhs; whnf)) ?_
                refine TR.done (by kernel_rfl) ?_
                refine TQ.nn ?_
                refine T.ret ?_
                refine TQ.br ?_
                refine TQ.nr ?_
                refine TQ.ret (vs := [.bool true]) (L' := [memA p (writeE bs lt t.at_ t.s true 12).2 lt, refA r (writeE bs lt t.at_ t.s true 12).2 lt, poolA q p at0 sz wh bs.length, rpoolA q2 r at0 sz wh bs.length]) rfl ⟨rfl, rfl⟩ ⟨rfl, (writeE bs lt t.at_ t.s true 12).2, lt, wh, writeE_len _ _ _ _ _ _, rfl, rfl⟩ (by (refine Ent.imp ?_; repeat first | exact Imp.refl _ | exact Imp.nil _ | (apply Imp.pull; focus ((repeat first | exact Del.head _ _ | apply Del.tail); done)) | (apply Imp.row; focus ((repeat first | exact Del.head _ _ | apply Del.tail); done)) | apply Imp.drop))
              · refine T.skip ?_
                refine TQ.bn ?_
                refine TQ.nn ?_
                refine T.seq ?_
                refine T.seq ?_
                refine T.reg ?_
                refine TO.p (DP.mv (by conv => lhs; whnf)) ?_
                refine TO.p (DP.peqS rfl rfl Try.underlying46) ?_
                refine TO.nil ?_
                refine TQ.nn ?_
                refine T.condF rfl ?_
                refine T.skip ?_
                refine TQ.nn ?_
                refine T.seq ?_
                refine T.seq ?_
                refine T.reg ?_
                refine TO.p (DP.fa 0 rfl Try.underlying33 rfl rfl sz3) ?_
                refine TO.d (D.ldR rfl pl3 (by (repeat first | exact LMem.head _ _ | apply LMem.tail)) (by rfl)) ?_
                refine TO.nil ?_
                refine TQ.nn ?_
                refine T.block ?_
                refine T.seq ?_
                refine T.reg ?_
                refine TO.p (DP.eqlI rfl rfl) ?_
                refine TO.p (DP.as (by conv => lhs; whnf)) ?_
                refine TO.nil ?_
                refine TQ.nn ?_
                refine T.condD rfl (fun hc8 => ?_) (fun hc8 => ?_)
                · refine T.seq ?_
                  refine T.reg ?_
                  refine TO.p (DP.mv (by conv => lhs; whnf)) ?_
                  refine TO.n (N.callF (getA q p at0 sz bs.length wh) Try.call20 ⟨rfl, trivial⟩ (by (repeat first | exact Pick.nil _ | (apply Pick.cons; focus ((repeat first | exact Del.head _ _ | apply Del.tail); done))))) ?_
                  rintro u179 _ ⟨_, ⟨rfl, rfl⟩, rfl⟩
                  try simp only [List.cons_append, List.nil_append]
                  refine TO.p (DP.mv (by conv => lhs; whnf)) ?_
                  refine TO.p (DP.ex rfl rfl) ?_
                  refine TO.p (DP.ex rfl rfl) ?_
                  refine TO.p (DP.as (by conv => lhs; whnf)) ?_
                  refine TO.p (DP.as (by conv => lhs; whnf)) ?_
                  refine TO.nil ?_
                  refine TQ.nn ?_
                  refine T.seq ?_
                  refine T.reg ?_
                  refine TO.p (DP.mv (by conv => lhs; whnf)) ?_
                  refine TO.n (N.callF (rgetA q2 r at0 sz bs.length wh) Try.call63 ⟨rfl, trivial⟩ (by (repeat first | exact Pick.nil _ | (apply Pick.cons; focus ((repeat first | exact Del.head _ _ | apply Del.tail); done))))) ?_
                  rintro u184 _ ⟨_, ⟨rfl, rfl⟩, rfl⟩
                  try simp only [List.cons_append, List.nil_append]
                  refine TO.p (DP.mv (by conv => lhs; whnf)) ?_
                  refine TO.p (DP.ex rfl rfl) ?_
                  refine TO.p (DP.ex rfl rfl) ?_
                  refine TO.p (DP.as (by conv => lhs; whnf)) ?_
                  refine TO.p (DP.as (by conv => lhs; whnf)) ?_
                  refine TO.nil ?_
                  refine TQ.nn ?_
                  refine T.seq ?_
                  refine T.reg ?_
                  refine TO.p (DP.mv (by conv => lhs; whnf)) ?_
                  refine TO.p (DP.mv (by conv => lhs; whnf)) ?_
                  refine TO.p (DP.to (v' := .bool true) (DP.eql rfl rfl) (by simp)) ?_
                  refine TO.p (DP.mv (by conv => lhs; whnf)) ?_
                  refine TO.onP rfl (DP.mv (by conv => lhs; whnf)) ?_
                  refine TO.onP rfl (DP.mv (by conv => lhs; whnf)) ?_
                  refine TO.onP rfl (DP.to (v' := .bool true) (DP.eql rfl rfl) (by simp)) ?_
                  refine TO.p (DP.pkT rfl (by conv => lhs; whnf)) ?_
                  refine TO.p (DP.as (by conv => lhs; whnf)) ?_
                  refine TO.nil ?_
                  refine TQ.nn ?_
                  refine T.ret ?_
                  refine TQ.br ?_
                  refine TQ.nr ?_
                  refine TQ.ret (vs := [.bool true]) (L' := [memA p bs lt, refA r bs lt, poolA q p at0 sz (getE at0 sz wh).2 bs.length, rpoolA q2 r at0 sz (getE at0 sz wh).2 bs.length]) rfl ⟨rfl, rfl⟩ ⟨rfl, bs, lt, (getE at0 sz wh).2, rfl, getE_len _ _ _, rfl⟩ (by (refine Ent.imp ?_; repeat first | exact Imp.refl _ | exact Imp.nil _ | (apply Imp.pull; focus ((repeat first | exact Del.head _ _ | apply Del.tail); done)) | (apply Imp.row; focus ((repeat first | exact Del.head _ _ | apply Del.tail); done)) | apply Imp.drop))
                · refine T.seq ?_
                  refine T.reg ?_
                  refine TO.p (DP.eqlI rfl rfl) ?_
                  refine TO.p (DP.as (by conv => lhs; whnf)) ?_
                  refine TO.nil ?_
                  refine TQ.nn ?_
                  refine T.condD rfl (fun hc9 => ?_) (fun hc9 => ?_)
                  · refine T.seq ?_
                    refine T.draw ([row 33 b9 [.int .i64 t.dd, .int .u32 t.at_, .int .i64 t.n, .int .u64 t.x, str t.s]]) [7] mixed (by repeat first | exact Calm.rt | apply Calm.t | apply Calm.b | apply Calm.l | apply Calm.ct) ?_
                    refine TR.p 0 rfl (by kernel_rfl) (DP.mv (by conv => lhs; whnf)) ?_
                    refine TR.p 1 rfl (by kernel_rfl) (DP.fa 1 rfl Try.underlying33 rfl rfl sz30) ?_
                    refine TR.d 2 rfl (by kernel_rfl) (by kernel_rfl) (by (refine Ent.imp ?_; repeat first | exact Imp.refl _ | exact Imp.nil _ | (apply Imp.pull; focus ((repeat first | exact Del.head _ _ | apply Del.tail); done)) | (apply Imp.row; focus ((repeat first | exact Del.head _ _ | apply Del.tail); done)) | apply Imp.drop)) (D.ldR rfl pl30 (by (repeat first | exact LMem.head _ _ | apply LMem.tail)) (by rfl)) ?_
                    refine TR.p 4 rfl (by kernel_rfl) (DP.mv (by conv => lhs; whnf)) ?_
                    refine TR.p 5 rfl (by kernel_rfl) (DP.fa 1 rfl Try.underlying33 rfl rfl sz30) ?_
                    refine TR.d 6 rfl (by kernel_rfl) (by kernel_rfl) (by (refine Ent.imp ?_; repeat first | exact Imp.refl _ | exact Imp.nil _ | (apply Imp.pull; focus ((repeat first | exact Del.head _ _ | apply Del.tail); done)) | (apply Imp.row; focus ((repeat first | exact Del.head _ _ | apply Del.tail); done)) | apply Imp.drop)) (D.ldR rfl pl30 (by (repeat first | exact LMem.head _ _ | apply LMem.tail)) (by rfl)) ?_
                    refine TR.n 3 (by kernel_rfl) rfl (N.callF (pputA q p at0 sz bs.length t.at_ wh hat) Try.call22 ⟨rfl, rfl, trivial⟩ (by (repeat first | exact Pick.nil _ | (apply Pick.cons; focus ((repeat first | exact Del.head _ _ | apply Del.tail); done))))) ?_
                    rintro u200 _ ⟨_, ⟨rfl, rfl⟩, rfl⟩
                    try simp only [List.cons_append, List.nil_append]
                    refine ⟨.inr (by (refine Ent.imp ?_; repeat first | exact Imp.refl _ | exact Imp.nil _ | (apply Imp.pull; focus ((repeat first | exact Del.head _ _ | apply Del.tail); done)) | (apply Imp.row; focus ((repeat first | exact Del.head _ _ | apply Del.tail); done)) | apply Imp.drop)), ?_⟩
                    refine TR.n 7 (by kernel_rfl) rfl (N.callF (rputA q2 r at0 sz bs.length t.at_ wh bs lt hat) Try.call64 ⟨rfl, rfl, rfl, rfl, trivial⟩ (by (repeat first | exact Pick.nil _ | (apply Pick.cons; focus ((repeat first | exact Del.head _ _ | apply Del.tail); done))))) ?_
                    rintro u204 _ ⟨_, ⟨rfl, rfl⟩, rfl⟩
                    try simp only [List.cons_append, List.nil_append]
                    refine ⟨.inl rfl, ?_⟩
                    refine TR.p 8 rfl (by kernel_rfl) (DP.to (v' := .bool true) (DP.eql rfl rfl) (by simp)) ?_
                    refine TR.p 9 rfl (by kernel_rfl) (DP.as (by conv => lhs; whnf)) ?_
                    refine TR.done (by kernel_rfl) ?_
                    refine TQ.nn ?_
                    refine T.ret ?_
                    refine TQ.br ?_
                    refine TQ.nr ?_
                    refine TQ.ret (vs := [.bool true]) (L' := [memA p bs lt, refA r bs lt, poolA q p at0 sz (pputE at0 sz wh t.at_).2 bs.length, rpoolA q2 r at0 sz (pputE at0 sz wh t.at_).2 bs.length]) rfl ⟨rfl, rfl⟩ ⟨rfl, bs, lt, (pputE at0 sz wh t.at_).2, rfl, pputE_len _ _ _ _, rfl⟩ (by (refine Ent.imp ?_; repeat first | exact Imp.refl _ | exact Imp.nil _ | (apply Imp.pull; focus ((repeat first | exact Del.head _ _ | apply Del.tail); done)) | (apply Imp.row; focus ((repeat first | exact Del.head _ _ | apply Del.tail); done)) | apply Imp.drop))
                  · refine T.seq ?_
                    refine T.reg ?_
                    refine TO.p (DP.eqlI rfl rfl) ?_
                    refine TO.p (DP.as (by conv => lhs; whnf)) ?_
                    refine TO.nil ?_
                    refine TQ.nn ?_
                    refine T.condD rfl (fun hc10 => ?_) (fun hc10 => ?_)
                    · refine T.seq ?_
                      refine T.draw ([row 33 b9 [.int .i64 t.dd, .int .u32 t.at_, .int .i64 t.n, .int .u64 t.x, str t.s]]) [7] mixed (by repeat first | exact Calm.rt | apply Calm.t | apply Calm.b | apply Calm.l | apply Calm.ct) ?_
                      refine TR.p 0 rfl (by kernel_rfl) (DP.mv (by conv => lhs; whnf)) ?_
                      refine TR.p 1 rfl (by kernel_rfl) (DP.fa 1 rfl Try.underlying33 rfl rfl sz30) ?_
                      refine TR.d 2 rfl (by kernel_rfl) (by kernel_rfl) (by (refine Ent.imp ?_; repeat first | exact Imp.refl _ | exact Imp.nil _ | (apply Imp.pull; focus ((repeat first | exact Del.head _ _ | apply Del.tail); done)) | (apply Imp.row; focus ((repeat first | exact Del.head _ _ | apply Del.tail); done)) | apply Imp.drop)) (D.ldR rfl pl30 (by (repeat first | exact LMem.head _ _ | apply LMem.tail)) (by rfl)) ?_
                      refine TR.p 4 rfl (by kernel_rfl) (DP.mv (by conv => lhs; whnf)) ?_
                      refine TR.p 5 rfl (by kernel_rfl) (DP.fa 1 rfl Try.underlying33 rfl rfl sz30) ?_
                      refine TR.d 6 rfl (by kernel_rfl) (by kernel_rfl) (by (refine Ent.imp ?_; repeat first | exact Imp.refl _ | exact Imp.nil _ | (apply Imp.pull; focus ((repeat first | exact Del.head _ _ | apply Del.tail); done)) | (apply Imp.row; focus ((repeat first | exact Del.head _ _ | apply Del.tail); done)) | apply Imp.drop)) (D.ldR rfl pl30 (by (repeat first | exact LMem.head _ _ | apply LMem.tail)) (by rfl)) ?_
                      refine TR.n 3 (by kernel_rfl) rfl (N.callF (giveA q p at0 sz t.at_ wh bs lt hat) Try.call23 ⟨rfl, rfl, trivial⟩ (by (repeat first | exact Pick.nil _ | (apply Pick.cons; focus ((repeat first | exact Del.head _ _ | apply Del.tail); done))))) ?_
                      rintro u211 _ ⟨_, ⟨rfl, rfl⟩, rfl⟩
                      try simp only [List.cons_append, List.nil_append]
                      refine ⟨.inr (by (refine Ent.imp ?_; repeat first | exact Imp.refl _ | exact Imp.nil _ | (apply Imp.pull; focus ((repeat first | exact Del.head _ _ | apply Del.tail); done)) | (apply Imp.row; focus ((repeat first | exact Del.head _ _ | apply Del.tail); done)) | apply Imp.drop)), ?_⟩
                      refine TR.n 7 (by kernel_rfl) rfl (N.callF (rgiveA q2 r at0 sz t.at_ wh bs lt hat) Try.call64 ⟨rfl, rfl, rfl, rfl, trivial⟩ (by (repeat first | exact Pick.nil _ | (apply Pick.cons; focus ((repeat first | exact Del.head _ _ | apply Del.tail); done))))) ?_
                      rintro u215 _ ⟨_, ⟨rfl, rfl⟩, rfl⟩
                      try simp only [List.cons_append, List.nil_append]
                      refine ⟨.inl rfl, ?_⟩
                      refine TR.p 8 rfl (by kernel_rfl) (DP.to (v' := .bool true) (DP.eql rfl rfl) (by simp)) ?_
                      refine TR.p 9 rfl (by kernel_rfl) (DP.as (by conv => lhs; whnf)) ?_
                      refine TR.done (by kernel_rfl) ?_
                      refine TQ.nn ?_
                      refine T.ret ?_
                      refine TQ.br ?_
                      refine TQ.nr ?_
                      refine TQ.ret (vs := [.bool true]) (L' := [memA p bs (ptE 1 2 true 11 at0 sz wh lt t.at_).2.2, refA r bs (ptE 1 2 true 11 at0 sz wh lt t.at_).2.2, poolA q p at0 sz (ptE 1 2 true 11 at0 sz wh lt t.at_).2.1 bs.length, rpoolA q2 r at0 sz (ptE 1 2 true 11 at0 sz wh lt t.at_).2.1 bs.length]) rfl ⟨rfl, rfl⟩ ⟨rfl, bs, (ptE 1 2 true 11 at0 sz wh lt t.at_).2.2, (ptE 1 2 true 11 at0 sz wh lt t.at_).2.1, rfl, ptE_len _ _ _ _ _ _ _ _ _, rfl⟩ (by (refine Ent.imp ?_; repeat first | exact Imp.refl _ | exact Imp.nil _ | (apply Imp.pull; focus ((repeat first | exact Del.head _ _ | apply Del.tail); done)) | (apply Imp.row; focus ((repeat first | exact Del.head _ _ | apply Del.tail); done)) | apply Imp.drop))
                    · refine T.seq ?_
                      refine T.reg ?_
                      refine TO.p (DP.eqlI rfl rfl) ?_
                      refine TO.p (DP.as (by conv => lhs; whnf)) ?_
                      refine TO.nil ?_
                      refine TQ.nn ?_
                      refine T.condD rfl (fun hc11 => ?_) (fun hc11 => ?_)
                      · refine T.seq ?_
                        refine T.draw ([row 33 b9 [.int .i64 t.dd, .int .u32 t.at_, .int .i64 t.n, .int .u64 t.x, str t.s]]) [7] mixed (by repeat first | exact Calm.rt | apply Calm.t | apply Calm.b | apply Calm.l | apply Calm.ct) ?_
                        refine TR.p 0 rfl (by kernel_rfl) (DP.mv (by conv => lhs; whnf)) ?_
                        refine TR.p 1 rfl (by kernel_rfl) (DP.fa 1 rfl Try.underlying33 rfl rfl sz30) ?_
                        refine TR.d 2 rfl (by kernel_rfl) (by kernel_rfl) (by (refine Ent.imp ?_; repeat first | exact Imp.refl _ | exact Imp.nil _ | (apply Imp.pull; focus ((repeat first | exact Del.head _ _ | apply Del.tail); done)) | (apply Imp.row; focus ((repeat first | exact Del.head _ _ | apply Del.tail); done)) | apply Imp.drop)) (D.ldR rfl pl30 (by (repeat first | exact LMem.head _ _ | apply LMem.tail)) (by rfl)) ?_
                        refine TR.p 4 rfl (by kernel_rfl) (DP.mv (by conv => lhs; whnf)) ?_
                        refine TR.p 5 rfl (by kernel_rfl) (DP.fa 1 rfl Try.underlying33 rfl rfl sz30) ?_
                        refine TR.d 6 rfl (by kernel_rfl) (by kernel_rfl) (by (refine Ent.imp ?_; repeat first | exact Imp.refl _ | exact Imp.nil _ | (apply Imp.pull; focus ((repeat first | exact Del.head _ _ | apply Del.tail); done)) | (apply Imp.row; focus ((repeat first | exact Del.head _ _ | apply Del.tail); done)) | apply Imp.drop)) (D.ldR rfl pl30 (by (repeat first | exact LMem.head _ _ | apply LMem.tail)) (by rfl)) ?_
                        refine TR.n 3 (by kernel_rfl) rfl (N.callF (takeA q p at0 sz t.at_ wh bs lt hat) Try.call24 ⟨rfl, rfl, trivial⟩ (by (repeat first | exact Pick.nil _ | (apply Pick.cons; focus ((repeat first | exact Del.head _ _ | apply Del.tail); done))))) ?_
                        rintro u222 _ ⟨_, ⟨rfl, rfl⟩, rfl⟩
                        try simp only [List.cons_append, List.nil_append]
                        refine ⟨.inr (by (refine Ent.imp ?_; repeat first | exact Imp.refl _ | exact Imp.nil _ | (apply Imp.pull; focus ((repeat first | exact Del.head _ _ | apply Del.tail); done)) | (apply Imp.row; focus ((repeat first | exact Del.head _ _ | apply Del.tail); done)) | apply Imp.drop)), ?_⟩
                        refine TR.n 7 (by kernel_rfl) rfl (N.callF (rtakeA q2 r at0 sz t.at_ wh bs lt hat) Try.call64 ⟨rfl, rfl, rfl, rfl, trivial⟩ (by (repeat first | exact Pick.nil _ | (apply Pick.cons; focus ((repeat first | exact Del.head _ _ | apply Del.tail); done))))) ?_
                        rintro u226 _ ⟨_, ⟨rfl, rfl⟩, rfl⟩
                        try simp only [List.cons_append, List.nil_append]
                        refine ⟨.inl rfl, ?_⟩
                        refine TR.p 8 rfl (by kernel_rfl) (DP.to (v' := .bool true) (DP.eql rfl rfl) (by simp)) ?_
                        refine TR.p 9 rfl (by kernel_rfl) (DP.as (by conv => lhs; whnf)) ?_
                        refine TR.done (by kernel_rfl) ?_
                        refine TQ.nn ?_
                        refine T.ret ?_
                        refine TQ.br ?_
                        refine TQ.nr ?_
                        refine TQ.ret (vs := [.bool true]) (L' := [memA p bs (ptE 2 1 false 12 at0 sz wh lt t.at_).2.2, refA r bs (ptE 2 1 false 12 at0 sz wh lt t.at_).2.2, poolA q p at0 sz (ptE 2 1 false 12 at0 sz wh lt t.at_).2.1 bs.length, rpoolA q2 r at0 sz (ptE 2 1 false 12 at0 sz wh lt t.at_).2.1 bs.length]) rfl ⟨rfl, rfl⟩ ⟨rfl, bs, (ptE 2 1 false 12 at0 sz wh lt t.at_).2.2, (ptE 2 1 false 12 at0 sz wh lt t.at_).2.1, rfl, ptE_len _ _ _ _ _ _ _ _ _, rfl⟩ (by (refine Ent.imp ?_; repeat first | exact Imp.refl _ | exact Imp.nil _ | (apply Imp.pull; focus ((repeat first | exact Del.head _ _ | apply Del.tail); done)) | (apply Imp.row; focus ((repeat first | exact Del.head _ _ | apply Del.tail); done)) | apply Imp.drop))
                      · refine T.skip ?_
                        refine TQ.bn ?_
                        refine TQ.nn ?_
                        refine T.seq ?_
                        refine T.reg ?_
                        refine TO.p (DP.as (by conv => lhs; whnf)) ?_
                        refine TO.nil ?_
                        refine TQ.nn ?_
                        refine T.ret ?_
                        refine TQ.ret (vs := [.bool true]) (L' := [memA p bs lt, refA r bs lt, poolA q p at0 sz wh bs.length, rpoolA q2 r at0 sz wh bs.length]) rfl ⟨rfl, rfl⟩ ⟨rfl, bs, lt, wh, rfl, rfl, rfl⟩ (by (refine Ent.imp ?_; repeat first | exact Imp.refl _ | exact Imp.nil _ | (apply Imp.pull; focus ((repeat first | exact Del.head _ _ | apply Del.tail); done)) | (apply Imp.row; focus ((repeat first | exact Del.head _ _ | apply Del.tail); done)) | apply Imp.drop))
end Go.Proofs.Ytpidkdkbgjnhlaa
