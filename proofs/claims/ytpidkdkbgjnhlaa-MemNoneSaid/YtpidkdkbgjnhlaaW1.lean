/- Lemmas for the proofs of this seat: no statement of the seat is claimed here. -/
import Derived.Test.YtpidkdkbgjnhlaaTy
set_option linter.all false
namespace Go.Proofs.Ytpidkdkbgjnhlaa
open Go Pw
set_option maxRecDepth 20000
theorem end_spec (a l : Nat) (h1 : a < 4294967296) (h2 : l < 4294967296) :
    Sat Try.prog 46 [.agg #[.int .u32 a, .int .u32 l]] [] (fun v L' => v = .int .u64 ((a + l : Nat) : Int) ∧ L' = []) := by
  refine Sat.enter Try.func46 rfl Try.ntmps46 rfl (fun c R => ?_)
  try simp only [List.cons_append, List.nil_append]
  refine T.seq ?_
  refine T.reg ?_
  refine TO.n (N.bxA rfl) ?_
  rintro _ _ ⟨b1, rfl, rfl⟩
  refine TO.p (DP.as (by conv => lhs; whnf)) ?_
  refine TO.nil ?_
  refine TQ.nn ?_
  refine T.seq ?_
  refine T.reg ?_
  refine TO.p (DP.fa 0 rfl Try.underlying42 rfl rfl sz30) ?_
  refine TO.d (D.ldR rfl pl30 (by (repeat first | exact LMem.head _ _ | apply LMem.tail)) (by rfl)) ?_
  refine TO.p (DP.cv rfl is30 Try.underlying31 (l := 18446744073709551616) rfl (by omega)) ?_
  refine TO.p (DP.fa 1 rfl Try.underlying42 rfl rfl sz30) ?_
  refine TO.d (D.ldR rfl pl30 (by (repeat first | exact LMem.head _ _ | apply LMem.tail)) (by rfl)) ?_
  refine TO.p (DP.cv rfl is30 Try.underlying31 (l := 18446744073709551616) rfl (by omega)) ?_
  refine TO.p (DP.add rfl rfl (l := 18446744073709551616) rfl (by omega)) ?_
  refine TO.p (DP.as (by conv => lhs; whnf)) ?_
  refine TO.nil ?_
  refine TQ.nn ?_
  refine T.ret ?_
  refine TQ.ret (vs := [.int .u64 ((a + l : Nat) : Int)]) (L' := []) rfl ⟨rfl, rfl⟩ ⟨rfl, rfl⟩ (by (refine Ent.imp ?_; repeat first | exact Imp.refl _ | exact Imp.nil _ | (apply Imp.pull; focus ((repeat first | exact Del.head _ _ | apply Del.tail); done)) | (apply Imp.row; focus ((repeat first | exact Del.head _ _ | apply Del.tail); done)) | apply Imp.drop))

theorem new_bad (n : Int) (hn : n < 1 ∨ 1048576 < n) :
    Sat Try.prog 9 [.int .i64 n] [] (fun v L' => v = .tuple #[.pointer none, .int .i64 2] ∧ L' = []) := by
  refine Sat.enter Try.func9 rfl Try.ntmps9 rfl (fun c R => ?_)
  try simp only [List.cons_append, List.nil_append]
  refine T.seq ?_
  refine T.reg ?_
  refine TO.p (DP.as (by conv => lhs; whnf)) ?_
  refine TO.p (DP.as (by conv => lhs; whnf)) ?_
  refine TO.nil ?_
  refine TQ.nn ?_
  refine T.seq ?_
  refine T.seq ?_
  refine T.reg ?_
  refine TO.p (DP.mv (by conv => lhs; whnf)) ?_
  refine TO.p (DP.lssI rfl rfl) ?_
  refine TO.pB (DP.mv (by conv => lhs; whnf)) (fun hg6 => ?_) (fun hg6 => ?_)
  · refine TO.off rfl rfl ?_
    refine TO.off rfl rfl ?_
    refine TO.p (DP.pkT rfl (by conv => lhs; whnf)) ?_
    refine TO.nil ?_
    refine TQ.nn ?_
    refine T.condT rfl ?_
    refine T.seq ?_
    refine T.reg ?_
    refine TO.p (DP.as (by conv => lhs; whnf)) ?_
    refine TO.p (DP.as (by conv => lhs; whnf)) ?_
    refine TO.nil ?_
    refine TQ.nn ?_
    refine T.ret ?_
    refine TQ.nr ?_
    refine TQ.ret (vs := [.pointer none, .int .i64 2]) (L' := []) rfl ⟨rfl, rfl, rfl⟩ ⟨rfl, rfl⟩ (by (refine Ent.imp ?_; repeat first | exact Imp.refl _ | exact Imp.nil _ | (apply Imp.pull; focus ((repeat first | exact Del.head _ _ | apply Del.tail); done)) | (apply Imp.row; focus ((repeat first | exact Del.head _ _ | apply Del.tail); done)) | apply Imp.drop))
  · refine TO.onP rfl (DP.mv (by conv => lhs; whnf)) ?_
    refine TO.onP rfl (DP.gtrI rfl rfl) ?_
    refine TO.p (DP.pkF rfl (by conv => lhs; whnf)) ?_
    refine TO.nil ?_
    refine TQ.nn ?_
    refine T.condD rfl (fun hc0 => ?_) (fun hc0 => ?_)
    · refine T.seq ?_
      refine T.reg ?_
      refine TO.p (DP.as (by conv => lhs; whnf)) ?_
      refine TO.p (DP.as (by conv => lhs; whnf)) ?_
      refine TO.nil ?_
      refine TQ.nn ?_
      refine T.ret ?_
      refine TQ.nr ?_
      refine TQ.ret (vs := [.pointer none, .int .i64 2]) (L' := []) rfl ⟨rfl, rfl, rfl⟩ ⟨rfl, rfl⟩ (by (refine Ent.imp ?_; repeat first | exact Imp.refl _ | exact Imp.nil _ | (apply Imp.pull; focus ((repeat first | exact Del.head _ _ | apply Del.tail); done)) | (apply Imp.row; focus ((repeat first | exact Del.head _ _ | apply Del.tail); done)) | apply Imp.drop))
    · (exfalso; omega)

theorem new_ok (n : Nat) (h1 : 1 ≤ n) (h2 : n ≤ 1048576) :
    Sat Try.prog 9 [.int .i64 n] [] (fun v L' => ∃ p b, v = .tuple #[.pointer (some ⟨p, 0, none⟩), .int .i64 0] ∧ L' = [row 78 p [.slice (some ⟨b, 0, none⟩) n n, .slice none 0 0], row 5 b (List.replicate n (.int .u8 0))]) := by
  refine Sat.enter Try.func9 rfl Try.ntmps9 rfl (fun c R => ?_)
  try simp only [List.cons_append, List.nil_append]
  refine T.seq ?_
  refine T.reg ?_
  refine TO.p (DP.as (by conv => lhs; whnf)) ?_
  refine TO.p (DP.as (by conv => lhs; whnf)) ?_
  refine TO.nil ?_
  refine TQ.nn ?_
  refine T.seq ?_
  refine T.seq ?_
  refine T.reg ?_
  refine TO.p (DP.mv (by conv => lhs; whnf)) ?_
  refine TO.p (DP.lss (b := 1) rfl rfl) ?_
  refine TO.pB (DP.mv (by conv => lhs; whnf)) (fun hg6 => ?_) (fun hg6 => ?_)
  · refine TO.off rfl rfl ?_
    refine TO.off rfl rfl ?_
    refine TO.p (DP.pkT rfl (by conv => lhs; whnf)) ?_
    refine TO.nil ?_
    refine TQ.nn ?_
    refine T.condT rfl ?_
    (exfalso; omega)
  · refine TO.onP rfl (DP.mv (by conv => lhs; whnf)) ?_
    refine TO.onP rfl (DP.gtr (b := 1048576) rfl rfl) ?_
    refine TO.p (DP.pkF rfl (by conv => lhs; whnf)) ?_
    refine TO.nil ?_
    refine TQ.nn ?_
    refine T.condD rfl (fun hc0 => ?_) (fun hc0 => ?_)
    · (exfalso; omega)
    · refine T.skip ?_
      refine TQ.nn ?_
      refine T.seq ?_
      refine T.reg ?_
      refine TO.p (DP.mv (by conv => lhs; whnf)) ?_
      refine TO.n (N.mk rfl rfl Try.underlying49 sz5 by5 zr5 rfl rfl (by omega)) ?_
      rintro _ _ ⟨b11, rfl, rfl⟩
      have hfl : (List.replicate n [Value.int .u8 0]).flatten = List.replicate n (.int .u8 0) := by simp
      rw [hfl]
      refine TO.p (DP.bdL (vs := [(0, _)]) (us := [_, _]) ⟨rfl, (by conv => lhs; whnf), trivial⟩ pc78 zr78 rfl) ?_
      refine TO.n (N.bxA rfl) ?_
      rintro _ _ ⟨b13, rfl, rfl⟩
      refine TO.p (DP.as (by conv => lhs; whnf)) ?_
      refine TO.p (DP.as (by conv => lhs; whnf)) ?_
      refine TO.nil ?_
      refine TQ.nn ?_
      refine T.ret ?_
      refine TQ.ret (vs := [.pointer (some ⟨b13, 0, none⟩), .int .i64 0]) (L' := [_, _]) rfl ⟨rfl, rfl, rfl⟩ ⟨_, _, rfl, rfl⟩ (Ent.refl _ _)

theorem size_spec (p n m : Nat) (a : Option Addr) (v : Value) :
    Sat Try.prog 26 [.pointer (some ⟨p, 0, none⟩)] [row 78 p [.slice a n m, v]] (fun u L' => u = .int .i64 n ∧ L' = [row 78 p [.slice a n m, v]]) := by
  refine Sat.enter Try.func26 rfl Try.ntmps26 rfl (fun c R => ?_)
  try simp only [List.cons_append, List.nil_append]
  refine T.seq ?_
  refine T.reg ?_
  refine TO.p (DP.as (by conv => lhs; whnf)) ?_
  refine TO.nil ?_
  refine TQ.nn ?_
  refine T.seq ?_
  refine T.seq ?_
  refine T.reg ?_
  refine TO.p (DP.mv (by conv => lhs; whnf)) ?_
  refine TO.p (DP.peqS rfl rfl Try.underlying26) ?_
  refine TO.nil ?_
  refine TQ.nn ?_
  refine T.condF rfl ?_
  refine T.skip ?_
  refine TQ.nn ?_
  refine T.seq ?_
  refine T.reg ?_
  refine TO.p (DP.mv (by conv => lhs; whnf)) ?_
  refine TO.p (DP.nck rfl) ?_
  refine TO.p (DP.fa 0 rfl Try.underlying78 rfl rfl sz49) ?_
  refine TO.d (D.ldR rfl pl49 (by (repeat first | exact LMem.head _ _ | apply LMem.tail)) (by rfl)) ?_
  refine TO.p (DP.lenS rfl Try.underlying49) ?_
  refine TO.p (DP.as (by conv => lhs; whnf)) ?_
  refine TO.nil ?_
  refine TQ.nn ?_
  refine T.ret ?_
  refine TQ.ret (vs := [.int .i64 n]) (L' := [_]) rfl ⟨rfl, rfl⟩ ⟨rfl, rfl⟩ (Ent.refl _ _)

theorem size_nil : Sat Try.prog 26 [.pointer none] [] (fun u L' => u = .int .i64 0 ∧ L' = []) := by
  refine Sat.enter Try.func26 rfl Try.ntmps26 rfl (fun c R => ?_)
  try simp only [List.cons_append, List.nil_append]
  refine T.seq ?_
  refine T.reg ?_
  refine TO.p (DP.as (by conv => lhs; whnf)) ?_
  refine TO.nil ?_
  refine TQ.nn ?_
  refine T.seq ?_
  refine T.seq ?_
  refine T.reg ?_
  refine TO.p (DP.mv (by conv => lhs; whnf)) ?_
  refine TO.p (DP.peq0 rfl rfl Try.underlying26) ?_
  refine TO.nil ?_
  refine TQ.nn ?_
  refine T.condT rfl ?_
  refine T.seq ?_
  refine T.reg ?_
  refine TO.p (DP.as (by conv => lhs; whnf)) ?_
  refine TO.nil ?_
  refine TQ.nn ?_
  refine T.ret ?_
  refine TQ.nr ?_
  refine TQ.ret (vs := [.int .i64 0]) (L' := []) rfl ⟨rfl, rfl⟩ ⟨rfl, rfl⟩ (by (refine Ent.imp ?_; repeat first | exact Imp.refl _ | exact Imp.nil _ | (apply Imp.pull; focus ((repeat first | exact Del.head _ _ | apply Del.tail); done)) | (apply Imp.row; focus ((repeat first | exact Del.head _ _ | apply Del.tail); done)) | apply Imp.drop))

theorem part_ok (p n at_ : Nat) (m : Nat) (b : Nat) (v : Value) (hn : n ≤ 1048576) (ha : at_ < 4294967296) (h : at_ + m ≤ n) :
    Sat Try.prog 39 [.pointer (some ⟨p, 0, none⟩), .int .u32 at_, .int .i64 m] [row 78 p [.slice (some ⟨b, 0, none⟩) n n, v]] (fun u L' => u = .tuple #[.slice (some ⟨b, if m = 0 then 0 else at_, none⟩) m m, .int .i64 0] ∧ L' = [row 78 p [.slice (some ⟨b, 0, none⟩) n n, v]]) := by
  refine Sat.enter Try.func39 rfl Try.ntmps39 rfl (fun c R => ?_)
  try simp only [List.cons_append, List.nil_append]
  refine T.seq ?_
  refine T.reg ?_
  refine TO.p (DP.as (by conv => lhs; whnf)) ?_
  refine TO.p (DP.as (by conv => lhs; whnf)) ?_
  refine TO.nil ?_
  refine TQ.nn ?_
  refine T.seq ?_
  refine T.block ?_
  refine T.seq ?_
  refine T.reg ?_
  refine TO.p (DP.mv (by conv => lhs; whnf)) ?_
  refine TO.p (DP.peqS rfl rfl Try.underlying26) ?_
  refine TO.p (DP.as (by conv => lhs; whnf)) ?_
  refine TO.nil ?_
  refine TQ.nn ?_
  refine T.condF rfl ?_
  refine T.seq ?_
  refine T.reg ?_
  refine TO.p (DP.mv (by conv => lhs; whnf)) ?_
  refine TO.p (DP.mv (by conv => lhs; whnf)) ?_
  refine TO.p (DP.nck rfl) ?_
  refine TO.p (DP.fa 0 rfl Try.underlying78 rfl rfl sz49) ?_
  refine TO.d (D.ldR rfl pl49 (by (repeat first | exact LMem.head _ _ | apply LMem.tail)) (by rfl)) ?_
  refine TO.p (DP.lenS rfl Try.underlying49) ?_
  refine TO.p (DP.gtr rfl rfl) ?_
  refine TO.pB (DP.mv (by conv => lhs; whnf)) (fun hg19 => ?_) (fun hg19 => ?_)
  · (exfalso; omega)
  · refine TO.onP rfl (DP.mv (by conv => lhs; whnf)) ?_
    refine TO.onP rfl (DP.cv rfl is30 Try.underlying31 (l := 18446744073709551616) rfl (by omega)) ?_
    refine TO.onP rfl (DP.mv (by conv => lhs; whnf)) ?_
    refine TO.onP rfl (DP.cv rfl is3 Try.underlying31 (l := 18446744073709551616) rfl (by omega)) ?_
    refine TO.onP rfl (DP.add rfl rfl (l := 18446744073709551616) rfl (by omega)) ?_
    refine TO.onP rfl (DP.mv (by conv => lhs; whnf)) ?_
    refine TO.onP rfl (DP.nck rfl) ?_
    refine TO.onP rfl (DP.fa 0 rfl Try.underlying78 rfl rfl sz49) ?_
    refine TO.onD rfl (D.ldR rfl pl49 (by (repeat first | exact LMem.head _ _ | apply LMem.tail)) (by rfl)) ?_
    refine TO.onP rfl (DP.lenS rfl Try.underlying49) ?_
    refine TO.onP rfl (DP.cv rfl is3 Try.underlying31 (l := 18446744073709551616) rfl (by omega)) ?_
    refine TO.onP rfl (DP.gtr rfl rfl) ?_
    refine TO.p (DP.pkF rfl (by conv => lhs; whnf)) ?_
    refine TO.p (DP.as (by conv => lhs; whnf)) ?_
    refine TO.nil ?_
    refine TQ.nn ?_
    refine T.condD rfl (fun hc1 => ?_) (fun hc1 => ?_)
    · (exfalso; omega)
    · refine T.skip ?_
      refine TQ.bn ?_
      refine TQ.nn ?_
      refine T.seq ?_
      refine T.reg ?_
      refine TO.p (DP.mv (by conv => lhs; whnf)) ?_
      refine TO.p (DP.nck rfl) ?_
      refine TO.p (DP.fa 0 rfl Try.underlying78 rfl rfl sz49) ?_
      refine TO.d (D.ldR rfl pl49 (by (repeat first | exact LMem.head _ _ | apply LMem.tail)) (by rfl)) ?_
      refine TO.p (DP.mv (by conv => lhs; whnf)) ?_
      refine TO.p (DP.mv (by conv => lhs; whnf)) ?_
      refine TO.p (DP.cv rfl is30 Try.underlying3 (l := 9223372036854775808) rfl (by omega)) ?_
      refine TO.p (DP.mv (by conv => lhs; whnf)) ?_
      refine TO.p (DP.add rfl rfl (l := 9223372036854775808) rfl (by omega)) ?_
      refine TO.p (DP.mv (by conv => lhs; whnf)) ?_
      refine TO.p (DP.cv rfl is30 Try.underlying3 (l := 9223372036854775808) rfl (by omega)) ?_
      refine TO.p (DP.mv (by conv => lhs; whnf)) ?_
      refine TO.p (DP.add rfl rfl (l := 9223372036854775808) rfl (by omega)) ?_
      refine TO.p (DP.to (v' := .slice (some ⟨b, if m = 0 then 0 else at_, none⟩) m m) (DP.slSm (e := 5) (n := 0) rfl rfl rfl rfl Try.underlying49 sz5 (by omega) (by omega) (by omega)) (by by_cases h0 : m = 0 <;> simp [h0])) ?_
      refine TO.p (DP.as (by conv => lhs; whnf)) ?_
      refine TO.p (DP.as (by conv => lhs; whnf)) ?_
      refine TO.nil ?_
      refine TQ.nn ?_
      refine T.ret ?_
      refine TQ.ret (vs := [.slice (some ⟨b, if m = 0 then 0 else at_, none⟩) m m, .int .i64 0]) (L' := [_]) rfl ⟨rfl, rfl, rfl⟩ ⟨rfl, rfl⟩ (Ent.refl _ _)
end Go.Proofs.Ytpidkdkbgjnhlaa
