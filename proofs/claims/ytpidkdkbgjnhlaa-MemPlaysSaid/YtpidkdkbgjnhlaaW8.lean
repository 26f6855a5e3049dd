/- Lemmas for the proofs of this seat: no statement of the seat is claimed here. -/
import Derived.Test.YtpidkdkbgjnhlaaW7
set_option linter.all false
namespace Go.Proofs.Ytpidkdkbgjnhlaa
open Go Pw
set_option maxRecDepth 20000
set_option maxHeartbeats 4000000
theorem find_ok (q p wb at0 sz cnt at_ : Nat) (h0 : at0 < 4294967296) (hz : 0 < sz) (hz2 : sz ≤ 1048576) (hc : cnt ≤ 256) (ha : at_ < 4294967296) (k : Nat) (hk : k < cnt) (he : at_ = at0 + k * sz) :
    Sat Try.prog 69 [.pointer (some ⟨q, 0, none⟩), .int .u32 at_] [row 89 q [.pointer (some ⟨p, 0, none⟩), .int .u32 at0, .int .i64 sz, .slice (some ⟨wb, 0, none⟩) cnt cnt]] (fun u L' => u = .tuple #[.int .i64 (k : Nat), .int .i64 0] ∧ L' = [row 89 q [.pointer (some ⟨p, 0, none⟩), .int .u32 at0, .int .i64 sz, .slice (some ⟨wb, 0, none⟩) cnt cnt]]) := by
  refine Sat.enter Try.func69 rfl Try.ntmps69 rfl (fun c R => ?_)
  try simp only [List.cons_append, List.nil_append]
  have hd : at_ - at0 = k * sz := by omega
  have h1 : (at_ - at0) % sz = 0 := by rw [hd, Nat.mul_mod_left]
  have h2 : (at_ - at0) / sz = k := by rw [hd, Nat.mul_div_cancel _ hz]
  refine T.seq ?_
  refine T.reg ?_
  refine TO.p (DP.as (by conv => lhs; whnf)) ?_
  refine TO.p (DP.as (by conv => lhs; whnf)) ?_
  refine TO.nil ?_
  refine TQ.nn ?_
  refine T.seq ?_
  refine T.block ?_
  refine T.seq ?_
  refine T.reg ?_
  refine TO.p (DP.mv (by conv => lhs; whnf)) ?_
  refine TO.p (DP.peqS rfl rfl Try.underlying46) ?_
  refine TO.p (DP.as (by conv => lhs; whnf)) ?_
  refine TO.nil ?_
  refine TQ.nn ?_
  refine T.condF rfl ?_
  refine T.seq ?_
  refine T.drawL [] mixed (by repeat first | exact Calm.rt | apply Calm.t | apply Calm.b | apply Calm.l | apply Calm.ct) ?_
  refine TR.p 0 rfl (by kernel_rfl) (DP.mv (by conv => lhs; whnf)) ?_
  refine TR.p 1 rfl (by kernel_rfl) (DP.mv (by conv => lhs; whnf)) ?_
  refine TR.p 2 rfl (by kernel_rfl) (DP.nck rfl) ?_
  refine TR.p 3 rfl (by kernel_rfl) (DP.fa 1 rfl Try.underlying89 rfl rfl sz30) ?_
  refine TR.d 4 rfl (by kernel_rfl) (by kernel_rfl) (by (refine Ent.imp ?_; repeat first | exact Imp.refl _ | exact Imp.nil _ | (apply Imp.pull; focus ((repeat first | exact Del.head _ _ | apply Del.tail); done)) | (apply Imp.row; focus ((repeat first | exact Del.head _ _ | apply Del.tail); done)) | apply Imp.drop)) (D.ldR rfl pl30 (by (repeat first | exact LMem.head _ _ | apply LMem.tail)) (by rfl)) ?_
  refine TR.p 5 rfl (by kernel_rfl) (DP.lss rfl rfl) ?_
  refine TR.pB 6 rfl (by kernel_rfl) (DP.mv (by conv => lhs; whnf)) (fun hg16 => ?_) (fun hg16 => ?_)
  · exact absurd hg16 (by omega)
  · refine TR.pon 7 rfl (by kernel_rfl) rfl (DP.mv (by conv => lhs; whnf)) ?_
    refine TR.pon 8 rfl (by kernel_rfl) rfl (DP.mv (by conv => lhs; whnf)) ?_
    refine TR.pon 9 rfl (by kernel_rfl) rfl (DP.nck rfl) ?_
    refine TR.pon 10 rfl (by kernel_rfl) rfl (DP.fa 1 rfl Try.underlying89 rfl rfl sz30) ?_
    refine TR.don 11 rfl (by kernel_rfl) (by kernel_rfl) (by (refine Ent.imp ?_; repeat first | exact Imp.refl _ | exact Imp.nil _ | (apply Imp.pull; focus ((repeat first | exact Del.head _ _ | apply Del.tail); done)) | (apply Imp.row; focus ((repeat first | exact Del.head _ _ | apply Del.tail); done)) | apply Imp.drop)) rfl (D.ldR rfl pl30 (by (repeat first | exact LMem.head _ _ | apply LMem.tail)) (by rfl)) ?_
    refine TR.pon 12 rfl (by kernel_rfl) rfl (DP.sub rfl rfl (l := 4294967296) rfl (by omega) (by omega)) ?_
    refine TR.pon 13 rfl (by kernel_rfl) rfl (DP.cv rfl is30 Try.underlying3 (l := 9223372036854775808) rfl (by omega)) ?_
    refine TR.pon 14 rfl (by kernel_rfl) rfl (DP.mv (by conv => lhs; whnf)) ?_
    refine TR.pon 15 rfl (by kernel_rfl) rfl (DP.nck rfl) ?_
    refine TR.pon 16 rfl (by kernel_rfl) rfl (DP.fa 2 rfl Try.underlying89 rfl rfl sz3) ?_
    refine TR.don 17 rfl (by kernel_rfl) (by kernel_rfl) (by (refine Ent.imp ?_; repeat first | exact Imp.refl _ | exact Imp.nil _ | (apply Imp.pull; focus ((repeat first | exact Del.head _ _ | apply Del.tail); done)) | (apply Imp.row; focus ((repeat first | exact Del.head _ _ | apply Del.tail); done)) | apply Imp.drop)) rfl (D.ldR rfl pl3 (by (repeat first | exact LMem.head _ _ | apply LMem.tail)) (by rfl)) ?_
    refine TR.pon 18 rfl (by kernel_rfl) rfl (DP.rem rfl rfl hz) ?_
    refine TR.pon 19 rfl (by kernel_rfl) rfl (DP.neq (b := 0) rfl rfl) ?_
    refine TR.p 20 rfl (by kernel_rfl) (DP.pkF rfl (by conv => lhs; whnf)) ?_
    refine TR.pB 21 rfl (by kernel_rfl) (DP.mv (by conv => lhs; whnf)) (fun hg31 => ?_) (fun hg31 => ?_)
    · exact absurd h1 hg31
    · refine TR.pon 22 rfl (by kernel_rfl) rfl (DP.mv (by conv => lhs; whnf)) ?_
      refine TR.pon 23 rfl (by kernel_rfl) rfl (DP.mv (by conv => lhs; whnf)) ?_
      refine TR.pon 24 rfl (by kernel_rfl) rfl (DP.nck rfl) ?_
      refine TR.pon 25 rfl (by kernel_rfl) rfl (DP.fa 1 rfl Try.underlying89 rfl rfl sz30) ?_
      refine TR.don 26 rfl (by kernel_rfl) (by kernel_rfl) (by (refine Ent.imp ?_; repeat first | exact Imp.refl _ | exact Imp.nil _ | (apply Imp.pull; focus ((repeat first | exact Del.head _ _ | apply Del.tail); done)) | (apply Imp.row; focus ((repeat first | exact Del.head _ _ | apply Del.tail); done)) | apply Imp.drop)) rfl (D.ldR rfl pl30 (by (repeat first | exact LMem.head _ _ | apply LMem.tail)) (by rfl)) ?_
      refine TR.pon 27 rfl (by kernel_rfl) rfl (DP.sub rfl rfl (l := 4294967296) rfl (by omega) (by omega)) ?_
      refine TR.pon 28 rfl (by kernel_rfl) rfl (DP.cv rfl is30 Try.underlying3 (l := 9223372036854775808) rfl (by omega)) ?_
      refine TR.pon 29 rfl (by kernel_rfl) rfl (DP.mv (by conv => lhs; whnf)) ?_
      refine TR.pon 30 rfl (by kernel_rfl) rfl (DP.nck rfl) ?_
      refine TR.pon 31 rfl (by kernel_rfl) rfl (DP.fa 2 rfl Try.underlying89 rfl rfl sz3) ?_
      refine TR.don 32 rfl (by kernel_rfl) (by kernel_rfl) (by (refine Ent.imp ?_; repeat first | exact Imp.refl _ | exact Imp.nil _ | (apply Imp.pull; focus ((repeat first | exact Del.head _ _ | apply Del.tail); done)) | (apply Imp.row; focus ((repeat first | exact Del.head _ _ | apply Del.tail); done)) | apply Imp.drop)) rfl (D.ldR rfl pl3 (by (repeat first | exact LMem.head _ _ | apply LMem.tail)) (by rfl)) ?_
      refine TR.pon 33 rfl (by kernel_rfl) rfl (DP.quo rfl rfl hz (l := 9223372036854775808) rfl (by omega)) ?_
      refine TR.pon 34 rfl (by kernel_rfl) rfl (DP.mv (by conv => lhs; whnf)) ?_
      refine TR.pon 35 rfl (by kernel_rfl) rfl (DP.nck rfl) ?_
      refine TR.pon 36 rfl (by kernel_rfl) rfl (DP.fa 3 rfl Try.underlying89 rfl rfl sz49) ?_
      refine TR.don 37 rfl (by kernel_rfl) (by kernel_rfl) (by (refine Ent.imp ?_; repeat first | exact Imp.refl _ | exact Imp.nil _ | (apply Imp.pull; focus ((repeat first | exact Del.head _ _ | apply Del.tail); done)) | (apply Imp.row; focus ((repeat first | exact Del.head _ _ | apply Del.tail); done)) | apply Imp.drop)) rfl (D.ldR rfl pl49 (by (repeat first | exact LMem.head _ _ | apply LMem.tail)) (by rfl)) ?_
      refine TR.pon 38 rfl (by kernel_rfl) rfl (DP.lenS rfl Try.underlying49) ?_
      refine TR.pon 39 rfl (by kernel_rfl) rfl (DP.geq rfl rfl) ?_
      refine TR.p 40 rfl (by kernel_rfl) (DP.pkF rfl (by conv => lhs; whnf)) ?_
      refine TR.p 41 rfl (by kernel_rfl) (DP.as (by conv => lhs; whnf)) ?_
      refine TR.done (by kernel_rfl) ?_
      refine TQ.nn ?_
      refine T.condD rfl (fun hc1 => ?_) (fun hc1 => ?_)
      · exact absurd hc1 (by rw [h2]; omega)
      · refine T.skip ?_
        refine TQ.bn ?_
        refine TQ.nn ?_
        refine T.seq ?_
        refine T.drawL [] mixed (by repeat first | exact Calm.rt | apply Calm.t | apply Calm.b | apply Calm.l | apply Calm.ct) ?_
        refine TR.p 0 rfl (by kernel_rfl) (DP.mv (by conv => lhs; whnf)) ?_
        refine TR.p 1 rfl (by kernel_rfl) (DP.mv (by conv => lhs; whnf)) ?_
        refine TR.p 2 rfl (by kernel_rfl) (DP.nck rfl) ?_
        refine TR.p 3 rfl (by kernel_rfl) (DP.fa 1 rfl Try.underlying89 rfl rfl sz30) ?_
        refine TR.d 4 rfl (by kernel_rfl) (by kernel_rfl) (by (refine Ent.imp ?_; repeat first | exact Imp.refl _ | exact Imp.nil _ | (apply Imp.pull; focus ((repeat first | exact Del.head _ _ | apply Del.tail); done)) | (apply Imp.row; focus ((repeat first | exact Del.head _ _ | apply Del.tail); done)) | apply Imp.drop)) (D.ldR rfl pl30 (by (repeat first | exact LMem.head _ _ | apply LMem.tail)) (by rfl)) ?_
        refine TR.p 5 rfl (by kernel_rfl) (DP.sub rfl rfl (l := 4294967296) rfl (by omega) (by omega)) ?_
        refine TR.p 6 rfl (by kernel_rfl) (DP.cv rfl is30 Try.underlying3 (l := 9223372036854775808) rfl (by omega)) ?_
        refine TR.p 7 rfl (by kernel_rfl) (DP.mv (by conv => lhs; whnf)) ?_
        refine TR.p 8 rfl (by kernel_rfl) (DP.nck rfl) ?_
        refine TR.p 9 rfl (by kernel_rfl) (DP.fa 2 rfl Try.underlying89 rfl rfl sz3) ?_
        refine TR.d 10 rfl (by kernel_rfl) (by kernel_rfl) (by (refine Ent.imp ?_; repeat first | exact Imp.refl _ | exact Imp.nil _ | (apply Imp.pull; focus ((repeat first | exact Del.head _ _ | apply Del.tail); done)) | (apply Imp.row; focus ((repeat first | exact Del.head _ _ | apply Del.tail); done)) | apply Imp.drop)) (D.ldR rfl pl3 (by (repeat first | exact LMem.head _ _ | apply LMem.tail)) (by rfl)) ?_
        refine TR.p 11 rfl (by kernel_rfl) (DP.to (v' := .int .i64 (k : Nat)) (DP.quo rfl rfl hz (l := 9223372036854775808) rfl (by omega)) (by rw [h2])) ?_
        refine TR.p 12 rfl (by kernel_rfl) (DP.as (by conv => lhs; whnf)) ?_
        refine TR.p 13 rfl (by kernel_rfl) (DP.as (by conv => lhs; whnf)) ?_
        refine TR.done (by kernel_rfl) ?_
        refine TQ.nn ?_
        refine T.ret ?_
        refine TQ.ret (vs := [.int .i64 (k : Nat), .int .i64 0]) (L' := [_]) rfl ⟨rfl, rfl, rfl⟩ ⟨rfl, rfl⟩ (by (refine Ent.imp ?_; repeat first | exact Imp.refl _ | exact Imp.nil _ | (apply Imp.pull; focus ((repeat first | exact Del.head _ _ | apply Del.tail); done)) | (apply Imp.row; focus ((repeat first | exact Del.head _ _ | apply Del.tail); done)) | apply Imp.drop))

theorem find_bad (q p wb at0 sz cnt at_ : Nat) (h0 : at0 < 4294967296) (hz : 0 < sz) (hz2 : sz ≤ 1048576) (hc : cnt ≤ 256) (ha : at_ < 4294967296) (hb : ∀ k, k < cnt → at_ ≠ at0 + k * sz) :
    Sat Try.prog 69 [.pointer (some ⟨q, 0, none⟩), .int .u32 at_] [row 89 q [.pointer (some ⟨p, 0, none⟩), .int .u32 at0, .int .i64 sz, .slice (some ⟨wb, 0, none⟩) cnt cnt]] (fun u L' => u = .tuple #[.int .i64 (0 : Nat), .int .i64 2] ∧ L' = [row 89 q [.pointer (some ⟨p, 0, none⟩), .int .u32 at0, .int .i64 sz, .slice (some ⟨wb, 0, none⟩) cnt cnt]]) := by
  refine Sat.enter Try.func69 rfl Try.ntmps69 rfl (fun c R => ?_)
  try simp only [List.cons_append, List.nil_append]
  refine T.seq ?_
  refine T.reg ?_
  refine TO.p (DP.as (by conv => lhs; whnf)) ?_
  refine TO.p (DP.as (by conv => lhs; whnf)) ?_
  refine TO.nil ?_
  refine TQ.nn ?_
  refine T.seq ?_
  refine T.block ?_
  refine T.seq ?_
  refine T.reg ?_
  refine TO.p (DP.mv (by conv => lhs; whnf)) ?_
  refine TO.p (DP.peqS rfl rfl Try.underlying46) ?_
  refine TO.p (DP.as (by conv => lhs; whnf)) ?_
  refine TO.nil ?_
  refine TQ.nn ?_
  refine T.condF rfl ?_
  refine T.seq ?_
  refine T.drawL [] mixed (by repeat first | exact Calm.rt | apply Calm.t | apply Calm.b | apply Calm.l | apply Calm.ct) ?_
  refine TR.p 0 rfl (by kernel_rfl) (DP.mv (by conv => lhs; whnf)) ?_
  refine TR.p 1 rfl (by kernel_rfl) (DP.mv (by conv => lhs; whnf)) ?_
  refine TR.p 2 rfl (by kernel_rfl) (DP.nck rfl) ?_
  refine TR.p 3 rfl (by kernel_rfl) (DP.fa 1 rfl Try.underlying89 rfl rfl sz30) ?_
  refine TR.d 4 rfl (by kernel_rfl) (by kernel_rfl) (by (refine Ent.imp ?_; repeat first | exact Imp.refl _ | exact Imp.nil _ | (apply Imp.pull; focus ((repeat first | exact Del.head _ _ | apply Del.tail); done)) | (apply Imp.row; focus ((repeat first | exact Del.head _ _ | apply Del.tail); done)) | apply Imp.drop)) (D.ldR rfl pl30 (by (repeat first | exact LMem.head _ _ | apply LMem.tail)) (by rfl)) ?_
  refine TR.p 5 rfl (by kernel_rfl) (DP.lss rfl rfl) ?_
  refine TR.pB 6 rfl (by kernel_rfl) (DP.mv (by conv => lhs; whnf)) (fun hg16 => ?_) (fun hg16 => ?_)
  · refine TR.off 7 rfl (by kernel_rfl) rfl rfl ?_
    refine TR.off 8 rfl (by kernel_rfl) rfl rfl ?_
    refine TR.off 9 rfl (by kernel_rfl) rfl rfl ?_
    refine TR.off 10 rfl (by kernel_rfl) rfl rfl ?_
    refine TR.off 11 rfl (by kernel_rfl) rfl rfl ?_
    refine TR.off 12 rfl (by kernel_rfl) rfl rfl ?_
    refine TR.off 13 rfl (by kernel_rfl) rfl rfl ?_
    refine TR.off 14 rfl (by kernel_rfl) rfl rfl ?_
    refine TR.off 15 rfl (by kernel_rfl) rfl rfl ?_
    refine TR.off 16 rfl (by kernel_rfl) rfl rfl ?_
    refine TR.off 17 rfl (by kernel_rfl) rfl rfl ?_
    refine TR.off 18 rfl (by kernel_rfl) rfl rfl ?_
    refine TR.off 19 rfl (by kernel_rfl) rfl rfl ?_
    refine TR.p 20 rfl (by kernel_rfl) (DP.pkT rfl (by conv => lhs; whnf)) ?_
    refine TR.p 21 rfl (by kernel_rfl) (DP.mv (by conv => lhs; whnf)) ?_
    refine TR.off 22 rfl (by kernel_rfl) rfl rfl ?_
    refine TR.off 23 rfl (by kernel_rfl) rfl rfl ?_
    refine TR.off 24 rfl (by kernel_rfl) rfl rfl ?_
    refine TR.off 25 rfl (by kernel_rfl) rfl rfl ?_
    refine TR.off 26 rfl (by kernel_rfl) rfl rfl ?_
    refine TR.off 27 rfl (by kernel_rfl) rfl rfl ?_
    refine TR.off 28 rfl (by kernel_rfl) rfl rfl ?_
    refine TR.off 29 rfl (by kernel_rfl) rfl rfl ?_
    refine TR.off 30 rfl (by kernel_rfl) rfl rfl ?_
    refine TR.off 31 rfl (by kernel_rfl) rfl rfl ?_
    refine TR.off 32 rfl (by kernel_rfl) rfl rfl ?_
    refine TR.off 33 rfl (by kernel_rfl) rfl rfl ?_
    refine TR.off 34 rfl (by kernel_rfl) rfl rfl ?_
    refine TR.off 35 rfl (by kernel_rfl) rfl rfl ?_
    refine TR.off 36 rfl (by kernel_rfl) rfl rfl ?_
    refine TR.off 37 rfl (by kernel_rfl) rfl rfl ?_
    refine TR.off 38 rfl (by kernel_rfl) rfl rfl ?_
    refine TR.off 39 rfl (by kernel_rfl) rfl rfl ?_
    refine TR.p 40 rfl (by kernel_rfl) (DP.pkT rfl (by conv => lhs; whnf)) ?_
    refine TR.p 41 rfl (by kernel_rfl) (DP.as (by conv => lhs; whnf)) ?_
    refine TR.done (by kernel_rfl) ?_
    refine TQ.nn ?_
    refine T.condT rfl ?_
    refine T.seq ?_
    refine T.reg ?_
    refine TO.p (DP.as (by conv => lhs; whnf)) ?_
    refine TO.p (DP.as (by conv => lhs; whnf)) ?_
    refine TO.nil ?_
    refine TQ.nn ?_
    refine T.ret ?_
    refine TQ.br ?_
    refine TQ.nr ?_
    refine TQ.ret (vs := [.int .i64 (0 : Nat), .int .i64 2]) (L' := [_]) rfl ⟨rfl, rfl, rfl⟩ ⟨rfl, rfl⟩ (by (refine Ent.imp ?_; repeat first | exact Imp.refl _ | exact Imp.nil _ | (apply Imp.pull; focus ((repeat first | exact Del.head _ _ | apply Del.tail); done)) | (apply Imp.row; focus ((repeat first | exact Del.head _ _ | apply Del.tail); done)) | apply Imp.drop))
  · refine TR.pon 7 rfl (by kernel_rfl) rfl (DP.mv (by conv => lhs; whnf)) ?_
    refine TR.pon 8 rfl (by kernel_rfl) rfl (DP.mv (by conv => lhs; whnf)) ?_
    refine TR.pon 9 rfl (by kernel_rfl) rfl (DP.nck rfl) ?_
    refine TR.pon 10 rfl (by kernel_rfl) rfl (DP.fa 1 rfl Try.underlying89 rfl rfl sz30) ?_
    refine TR.don 11 rfl (by kernel_rfl) (by kernel_rfl) (by (refine Ent.imp ?_; repeat first | exact Imp.refl _ | exact Imp.nil _ | (apply Imp.pull; focus ((repeat first | exact Del.head _ _ | apply Del.tail); done)) | (apply Imp.row; focus ((repeat first | exact Del.head _ _ | apply Del.tail); done)) | apply Imp.drop)) rfl (D.ldR rfl pl30 (by (repeat first | exact LMem.head _ _ | apply LMem.tail)) (by rfl)) ?_
    refine TR.pon 12 rfl (by kernel_rfl) rfl (DP.sub rfl rfl (l := 4294967296) rfl (by omega) (by omega)) ?_
    refine TR.pon 13 rfl (by kernel_rfl) rfl (DP.cv rfl is30 Try.underlying3 (l := 9223372036854775808) rfl (by omega)) ?_
    refine TR.pon 14 rfl (by kernel_rfl) rfl (DP.mv (by conv => lhs; whnf)) ?_
    refine TR.pon 15 rfl (by kernel_rfl) rfl (DP.nck rfl) ?_
    refine TR.pon 16 rfl (by kernel_rfl) rfl (DP.fa 2 rfl Try.underlying89 rfl rfl sz3) ?_
    refine TR.don 17 rfl (by kernel_rfl) (by kernel_rfl) (by (refine Ent.imp ?_; repeat first | exact Imp.refl _ | exact Imp.nil _ | (apply Imp.pull; focus ((repeat first | exact Del.head _ _ | apply Del.tail); done)) | (apply Imp.row; focus ((repeat first | exact Del.head _ _ | apply Del.tail); done)) | apply Imp.drop)) rfl (D.ldR rfl pl3 (by (repeat first | exact LMem.head _ _ | apply LMem.tail)) (by rfl)) ?_
    refine TR.pon 18 rfl (by kernel_rfl) rfl (DP.rem rfl rfl hz) ?_
    refine TR.pon 19 rfl (by kernel_rfl) rfl (DP.neq (b := 0) rfl rfl) ?_
    refine TR.p 20 rfl (by kernel_rfl) (DP.pkF rfl (by conv => lhs; whnf)) ?_
    refine TR.pB 21 rfl (by kernel_rfl) (DP.mv (by conv => lhs; whnf)) (fun hg31 => ?_) (fun hg31 => ?_)
    · refine TR.off 22 rfl (by kernel_rfl) rfl rfl ?_
      refine TR.off 23 rfl (by kernel_rfl) rfl rfl ?_
      refine TR.off 24 rfl (by kernel_rfl) rfl rfl ?_
      refine TR.off 25 rfl (by kernel_rfl) rfl rfl ?_
      refine TR.off 26 rfl (by kernel_rfl) rfl rfl ?_
      refine TR.off 27 rfl (by kernel_rfl) rfl rfl ?_
      refine TR.off 28 rfl (by kernel_rfl) rfl rfl ?_
      refine TR.off 29 rfl (by kernel_rfl) rfl rfl ?_
      refine TR.off 30 rfl (by kernel_rfl) rfl rfl ?_
      refine TR.off 31 rfl (by kernel_rfl) rfl rfl ?_
      refine TR.off 32 rfl (by kernel_rfl) rfl rfl ?_
      refine TR.off 33 rfl (by kernel_rfl) rfl rfl ?_
      refine TR.off 34 rfl (by kernel_rfl) rfl rfl ?_
      refine TR.off 35 rfl (by kernel_rfl) rfl rfl ?_
      refine TR.off 36 rfl (by kernel_rfl) rfl rfl ?_
      refine TR.off 37 rfl (by kernel_rfl) rfl rfl ?_
      refine TR.off 38 rfl (by kernel_rfl) rfl rfl ?_
      refine TR.off 39 rfl (by kernel_rfl) rfl rfl ?_
      refine TR.p 40 rfl (by kernel_rfl) (DP.pkT rfl (by conv => lhs; whnf)) ?_
      refine TR.p 41 rfl (by kernel_rfl) (DP.as (by conv => lhs; whnf)) ?_
      refine TR.done (by kernel_rfl) ?_
      refine TQ.nn ?_
      refine T.condT rfl ?_
      refine T.seq ?_
      refine T.reg ?_
      refine TO.p (DP.as (by conv => lhs; whnf)) ?_
      refine TO.p (DP.as (by conv => lhs; whnf)) ?_
      refine TO.nil ?_
      refine TQ.nn ?_
      refine T.ret ?_
      refine TQ.br ?_
      refine TQ.nr ?_
      refine TQ.ret (vs := [.int .i64 (0 : Nat), .int .i64 2]) (L' := [_]) rfl ⟨rfl, rfl, rfl⟩ ⟨rfl, rfl⟩ (by (refine Ent.imp ?_; repeat first | exact Imp.refl _ | exact Imp.nil _ | (apply Imp.pull; focus ((repeat first | exact Del.head _ _ | apply Del.tail); done)) | (apply Imp.row; focus ((repeat first | exact Del.head _ _ | apply Del.tail); done)) | apply Imp.drop))
    · refine TR.pon 22 rfl (by kernel_rfl) rfl (DP.mv (by conv => lhs; whnf)) ?_
      refine TR.pon 23 rfl (by kernel_rfl) rfl (DP.mv (by conv => lhs; whnf)) ?_
      refine TR.pon 24 rfl (by kernel_rfl) rfl (DP.nck rfl) ?_
      refine TR.pon 25 rfl (by kernel_rfl) rfl (DP.fa 1 rfl Try.underlying89 rfl rfl sz30) ?_
      refine TR.don 26 rfl (by kernel_rfl) (by kernel_rfl) (by (refine Ent.imp ?_; repeat first | exact Imp.refl _ | exact Imp.nil _ | (apply Imp.pull; focus ((repeat first | exact Del.head _ _ | apply Del.tail); done)) | (apply Imp.row; focus ((repeat first | exact Del.head _ _ | apply Del.tail); done)) | apply Imp.drop)) rfl (D.ldR rfl pl30 (by (repeat first | exact LMem.head _ _ | apply LMem.tail)) (by rfl)) ?_
      refine TR.pon 27 rfl (by kernel_rfl) rfl (DP.sub rfl rfl (l := 4294967296) rfl (by omega) (by omega)) ?_
      refine TR.pon 28 rfl (by kernel_rfl) rfl (DP.cv rfl is30 Try.underlying3 (l := 9223372036854775808) rfl (by omega)) ?_
      refine TR.pon 29 rfl (by kernel_rfl) rfl (DP.mv (by conv => lhs; whnf)) ?_
      refine TR.pon 30 rfl (by kernel_rfl) rfl (DP.nck rfl) ?_
      refine TR.pon 31 rfl (by kernel_rfl) rfl (DP.fa 2 rfl Try.underlying89 rfl rfl sz3) ?_
      refine TR.don 32 rfl (by kernel_rfl) (by kernel_rfl) (by (refine Ent.imp ?_; repeat first | exact Imp.refl _ | exact Imp.nil _ | (apply Imp.pull; focus ((repeat first | exact Del.head _ _ | apply Del.tail); done)) | (apply Imp.row; focus ((repeat first | exact Del.head _ _ | apply Del.tail); done)) | apply Imp.drop)) rfl (D.ldR rfl pl3 (by (repeat first | exact LMem.head _ _ | apply LMem.tail)) (by rfl)) ?_
      refine TR.pon 33 rfl (by kernel_rfl) rfl (DP.quo rfl rfl hz (l := 9223372036854775808) rfl (by omega)) ?_
      refine TR.pon 34 rfl (by kernel_rfl) rfl (DP.mv (by conv => lhs; whnf)) ?_
      refine TR.pon 35 rfl (by kernel_rfl) rfl (DP.nck rfl) ?_
      refine TR.pon 36 rfl (by kernel_rfl) rfl (DP.fa 3 rfl Try.underlying89 rfl rfl sz49) ?_
      refine TR.don 37 rfl (by kernel_rfl) (by kernel_rfl) (by (refine Ent.imp ?_; repeat first | exact Imp.refl _ | exact Imp.nil _ | (apply Imp.pull; focus ((repeat first | exact Del.head _ _ | apply Del.tail); done)) | (apply Imp.row; focus ((repeat first | exact Del.head _ _ | apply Del.tail); done)) | apply Imp.drop)) rfl (D.ldR rfl pl49 (by (repeat first | exact LMem.head _ _ | apply LMem.tail)) (by rfl)) ?_
      refine TR.pon 38 rfl (by kernel_rfl) rfl (DP.lenS rfl Try.underlying49) ?_
      refine TR.pon 39 rfl (by kernel_rfl) rfl (DP.geq rfl rfl) ?_
      refine TR.p 40 rfl (by kernel_rfl) (DP.pkF rfl (by conv => lhs; whnf)) ?_
      refine TR.p 41 rfl (by kernel_rfl) (DP.as (by conv => lhs; whnf)) ?_
      refine TR.done (by kernel_rfl) ?_
      refine TQ.nn ?_
      refine T.condD rfl (fun hc1 => ?_) (fun hc1 => ?_)
      · refine T.seq ?_
        refine T.reg ?_
        refine TO.p (DP.as (by conv => lhs; whnf)) ?_
        refine TO.p (DP.as (by conv => lhs; whnf)) ?_
        refine TO.nil ?_
        refine TQ.nn ?_
        refine T.ret ?_
        refine TQ.br ?_
        refine TQ.nr ?_
        refine TQ.ret (vs := [.int .i64 (0 : Nat), .int .i64 2]) (L' := [_]) rfl ⟨rfl, rfl, rfl⟩ ⟨rfl, rfl⟩ (by (refine Ent.imp ?_; repeat first | exact Imp.refl _ | exact Imp.nil _ | (apply Imp.pull; focus ((repeat first | exact Del.head _ _ | apply Del.tail); done)) | (apply Imp.row; focus ((repeat first | exact Del.head _ _ | apply Del.tail); done)) | apply Imp.drop))
      · (exact absurd (by have := Nat.div_add_mod (at_ - at0) sz; rw [Decidable.not_not.1 hg31, Nat.mul_comm] at this; omega) (hb ((at_ - at0) / sz) (by omega)))

theorem find_nil (at_ : Nat) :
    Sat Try.prog 69 [.pointer none, .int .u32 at_] [] (fun u L' => u = .tuple #[.int .i64 (0 : Nat), .int .i64 1] ∧ L' = []) := by
  refine Sat.enter Try.func69 rfl Try.ntmps69 rfl (fun c R => ?_)
  try simp only [List.cons_append, List.nil_append]
  refine T.seq ?_
  refine T.reg ?_
  refine TO.p (DP.as (by conv => lhs; whnf)) ?_
  refine TO.p (DP.as (by conv => lhs; whnf)) ?_
  refine TO.nil ?_
  refine TQ.nn ?_
  refine T.seq ?_
  refine T.block ?_
  refine T.seq ?_
  refine T.reg ?_
  refine TO.p (DP.mv (by conv => lhs; whnf)) ?_
  refine TO.p (DP.peq0 rfl rfl Try.underlying46) ?_
  refine TO.p (DP.as (by conv => lhs; whnf)) ?_
  refine TO.nil ?_
  refine TQ.nn ?_
  refine T.condT rfl ?_
  refine T.seq ?_
  refine T.reg ?_
  refine TO.p (DP.as (by conv => lhs; whnf)) ?_
  refine TO.p (DP.as (by conv => lhs; whnf)) ?_
  refine TO.nil ?_
  refine TQ.nn ?_
  refine T.ret ?_
  refine TQ.br ?_
  refine TQ.nr ?_
  refine TQ.ret (vs := [.int .i64 (0 : Nat), .int .i64 1]) (L' := []) rfl ⟨rfl, rfl, rfl⟩ ⟨rfl, rfl⟩ (by (refine Ent.imp ?_; repeat first | exact Imp.refl _ | exact Imp.nil _ | (apply Imp.pull; focus ((repeat first | exact Del.head _ _ | apply Del.tail); done)) | (apply Imp.row; focus ((repeat first | exact Del.head _ _ | apply Del.tail); done)) | apply Imp.drop))

theorem whose_ok (q p wb at0 sz at_ : Nat) (wh : List UInt8) (h0 : at0 < 4294967296) (hz : 0 < sz) (hz2 : sz ≤ 1048576) (hc : wh.length ≤ 256) (ha : at_ < 4294967296) (k : Nat) (x : UInt8) (hx : wh[k]? = some x) (he : at_ = at0 + k * sz) :
    Sat Try.prog 35 [.pointer (some ⟨q, 0, none⟩), .int .u32 at_] [row 89 q [.pointer (some ⟨p, 0, none⟩), .int .u32 at0, .int .i64 sz, .slice (some ⟨wb, 0, none⟩) wh.length wh.length], row 5 wb (wh.map byteV)] (fun u L' => u = .tuple #[byteV x, .int .i64 0] ∧ L' = [row 89 q [.pointer (some ⟨p, 0, none⟩), .int .u32 at0, .int .i64 sz, .slice (some ⟨wb, 0, none⟩) wh.length wh.length], row 5 wb (wh.map byteV)]) := by
  refine Sat.enter Try.func35 rfl Try.ntmps35 rfl (fun c R => ?_)
  try simp only [List.cons_append, List.nil_append]
  have hk : k < wh.length := by rcases Nat.lt_or_ge k wh.length with h | h; exact h; rw [List.getElem?_eq_none h] at hx; cases hx
  refine T.seq ?_
  refine T.reg ?_
  refine TO.p (DP.as (by conv => lhs; whnf)) ?_
  refine TO.p (DP.as (by conv => lhs; whnf)) ?_
  refine TO.nil ?_
  refine TQ.nn ?_
  refine T.seq ?_
  refine T.reg ?_
  refine TO.p (DP.mv (by conv => lhs; whnf)) ?_
  refine TO.p (DP.mv (by conv => lhs; whnf)) ?_
  refine TO.n (N.callF (find_ok q p wb at0 sz wh.length at_ h0 hz hz2 hc ha k hk he) Try.call69 ⟨rfl, rfl, trivial⟩ (by (repeat first | exact Pick.nil _ | (apply Pick.cons; focus ((repeat first | exact Del.head _ _ | apply Del.tail); done))))) ?_
  rintro u11 _ ⟨_, ⟨rfl, rfl⟩, rfl⟩
  try simp only [List.cons_append, List.nil_append]
  refine TO.p (DP.mv (by conv => lhs; whnf)) ?_
  refine TO.p (DP.ex rfl rfl) ?_
  refine TO.p (DP.ex rfl rfl) ?_
  refine TO.p (DP.as (by conv => lhs; whnf)) ?_
  refine TO.p (DP.as (by conv => lhs; whnf)) ?_
  refine TO.nil ?_
  refine TQ.nn ?_
  refine T.seq ?_
  refine T.seq ?_
  refine T.reg ?_
  refine TO.p (DP.mv (by conv => lhs; whnf)) ?_
  refine TO.p (DP.neq (a := 0) (b := 0) rfl rfl) ?_
  refine TO.nil ?_
  refine TQ.nn ?_
  refine T.condD rfl (fun hc0 => ?_) (fun hc0 => ?_)
  · exact absurd rfl hc0
  · refine T.skip ?_
    refine TQ.nn ?_
    refine T.seq ?_
    refine T.reg ?_
    refine TO.p (DP.mv (by conv => lhs; whnf)) ?_
    refine TO.p (DP.nck rfl) ?_
    refine TO.p (DP.fa 3 rfl Try.underlying89 rfl rfl sz49) ?_
    refine TO.d (D.ldR rfl pl49 (by (repeat first | exact LMem.head _ _ | apply LMem.tail)) (by rfl)) ?_
    refine TO.p (DP.mv (by conv => lhs; whnf)) ?_
    refine TO.p (DP.ias rfl rfl Try.underlying49 sz5 (by omega)) ?_
    refine TO.d (D.ldR (v := byteV x) rfl pl5 (by (repeat first | exact LMem.head _ _ | apply LMem.tail)) (by rw [List.getElem?_map]; simp [hx])) ?_
    refine TO.p (DP.as (by conv => lhs; whnf)) ?_
    refine TO.p (DP.as (by conv => lhs; whnf)) ?_
    refine TO.nil ?_
    refine TQ.nn ?_
    refine T.ret ?_
    refine TQ.ret (vs := [byteV x, .int .i64 0]) (L' := [_, _]) rfl ⟨rfl, rfl, rfl⟩ ⟨rfl, rfl⟩ (by (refine Ent.imp ?_; repeat first | exact Imp.refl _ | exact Imp.nil _ | (apply Imp.pull; focus ((repeat first | exact Del.head _ _ | apply Del.tail); done)) | (apply Imp.row; focus ((repeat first | exact Del.head _ _ | apply Del.tail); done)) | apply Imp.drop))

theorem whose_bad (q p wb at0 sz at_ : Nat) (wh : List UInt8) (h0 : at0 < 4294967296) (hz : 0 < sz) (hz2 : sz ≤ 1048576) (hc : wh.length ≤ 256) (ha : at_ < 4294967296) (hb : ∀ k, k < wh.length → at_ ≠ at0 + k * sz) :
    Sat Try.prog 35 [.pointer (some ⟨q, 0, none⟩), .int .u32 at_] [row 89 q [.pointer (some ⟨p, 0, none⟩), .int .u32 at0, .int .i64 sz, .slice (some ⟨wb, 0, none⟩) wh.length wh.length], row 5 wb (wh.map byteV)] (fun u L' => u = .tuple #[byteV 0, .int .i64 2] ∧ L' = [row 89 q [.pointer (some ⟨p, 0, none⟩), .int .u32 at0, .int .i64 sz, .slice (some ⟨wb, 0, none⟩) wh.length wh.length], row 5 wb (wh.map byteV)]) := by
  refine Sat.enter Try.func35 rfl Try.ntmps35 rfl (fun c R => ?_)
  try simp only [List.cons_append, List.nil_append]
  refine T.seq ?_
  refine T.reg ?_
  refine TO.p (DP.as (by conv => lhs; whnf)) ?_
  refine TO.p (DP.as (by conv => lhs; whnf)) ?_
  refine TO.nil ?_
  refine TQ.nn ?_
  refine T.seq ?_
  refine T.reg ?_
  refine TO.p (DP.mv (by conv => lhs; whnf)) ?_
  refine TO.p (DP.mv (by conv => lhs; whnf)) ?_
  refine TO.n (N.callF (find_bad q p wb at0 sz wh.length at_ h0 hz hz2 hc ha hb) Try.call69 ⟨rfl, rfl, trivial⟩ (by (repeat first | exact Pick.nil _ | (apply Pick.cons; focus ((repeat first | exact Del.head _ _ | apply Del.tail); done))))) ?_
  rintro u11 _ ⟨_, ⟨rfl, rfl⟩, rfl⟩
  try simp only [List.cons_append, List.nil_append]
  refine TO.p (DP.mv (by conv => lhs; whnf)) ?_
  refine TO.p (DP.ex rfl rfl) ?_
  refine TO.p (DP.ex rfl rfl) ?_
  refine TO.p (DP.as (by conv => lhs; whnf)) ?_
  refine TO.p (DP.as (by conv => lhs; whnf)) ?_
  refine TO.nil ?_
  refine TQ.nn ?_
  refine T.seq ?_
  refine T.seq ?_
  refine T.reg ?_
  refine TO.p (DP.mv (by conv => lhs; whnf)) ?_
  refine TO.p (DP.neq (a := 2) (b := 0) rfl rfl) ?_
  refine TO.nil ?_
  refine TQ.nn ?_
  refine T.condD rfl (fun hc0 => ?_) (fun hc0 => ?_)
  · refine T.seq ?_
    refine T.reg ?_
    refine TO.p (DP.mv (by conv => lhs; whnf)) ?_
    refine TO.p (DP.as (by conv => lhs; whnf)) ?_
    refine TO.p (DP.as (by conv => lhs; whnf)) ?_
    refine TO.nil ?_
    refine TQ.nn ?_
    refine T.ret ?_
    refine TQ.nr ?_
    refine TQ.ret (vs := [byteV 0, .int .i64 2]) (L' := [_, _]) rfl ⟨rfl, rfl, rfl⟩ ⟨rfl, rfl⟩ (by (refine Ent.imp ?_; repeat first | exact Imp.refl _ | exact Imp.nil _ | (apply Imp.pull; focus ((repeat first | exact Del.head _ _ | apply Del.tail); done)) | (apply Imp.row; focus ((repeat first | exact Del.head _ _ | apply Del.tail); done)) | apply Imp.drop))
  · exact absurd (by decide) hc0

theorem whose_nil (at_ : Nat) :
    Sat Try.prog 35 [.pointer none, .int .u32 at_] [] (fun u L' => u = .tuple #[byteV 0, .int .i64 1] ∧ L' = []) := by
  refine Sat.enter Try.func35 rfl Try.ntmps35 rfl (fun c R => ?_)
  try simp only [List.cons_append, List.nil_append]
  refine T.seq ?_
  refine T.reg ?_
  refine TO.p (DP.as (by conv => lhs; whnf)) ?_
  refine TO.p (DP.as (by conv => lhs; whnf)) ?_
  refine TO.nil ?_
  refine TQ.nn ?_
  refine T.seq ?_
  refine T.reg ?_
  refine TO.p (DP.mv (by conv => lhs; whnf)) ?_
  refine TO.p (DP.mv (by conv => lhs; whnf)) ?_
  refine TO.n (N.callF (find_nil at_) Try.call69 ⟨rfl, rfl, trivial⟩ (by (repeat first | exact Pick.nil _ | (apply Pick.cons; focus ((repeat first | exact Del.head _ _ | apply Del.tail); done))))) ?_
  rintro u11 _ ⟨_, ⟨rfl, rfl⟩, rfl⟩
  try simp only [List.cons_append, List.nil_append]
  refine TO.p (DP.mv (by conv => lhs; whnf)) ?_
  refine TO.p (DP.ex rfl rfl) ?_
  refine TO.p (DP.ex rfl rfl) ?_
  refine TO.p (DP.as (by conv => lhs; whnf)) ?_
  refine TO.p (DP.as (by conv => lhs; whnf)) ?_
  refine TO.nil ?_
  refine TQ.nn ?_
  refine T.seq ?_
  refine T.seq ?_
  refine T.reg ?_
  refine TO.p (DP.mv (by conv => lhs; whnf)) ?_
  refine TO.p (DP.neq (a := 1) (b := 0) rfl rfl) ?_
  refine TO.nil ?_
  refine TQ.nn ?_
  refine T.condD rfl (fun hc0 => ?_) (fun hc0 => ?_)
  · refine T.seq ?_
    refine T.reg ?_
    refine TO.p (DP.mv (by conv => lhs; whnf)) ?_
    refine TO.p (DP.as (by conv => lhs; whnf)) ?_
    refine TO.p (DP.as (by conv => lhs; whnf)) ?_
    refine TO.nil ?_
    refine TQ.nn ?_
    refine T.ret ?_
    refine TQ.nr ?_
    refine TQ.ret (vs := [byteV 0, .int .i64 1]) (L' := []) rfl ⟨rfl, rfl, rfl⟩ ⟨rfl, rfl⟩ (by (refine Ent.imp ?_; repeat first | exact Imp.refl _ | exact Imp.nil _ | (apply Imp.pull; focus ((repeat first | exact Del.head _ _ | apply Del.tail); done)) | (apply Imp.row; focus ((repeat first | exact Del.head _ _ | apply Del.tail); done)) | apply Imp.drop))
  · exact absurd (by decide) hc0

theorem left_spec (q p wb at0 sz : Nat) (wh : List UInt8) (hc : wh.length ≤ 256) :
    Sat Try.prog 21 [.pointer (some ⟨q, 0, none⟩)] [row 89 q [.pointer (some ⟨p, 0, none⟩), .int .u32 at0, .int .i64 sz, .slice (some ⟨wb, 0, none⟩) wh.length wh.length], row 5 wb (wh.map byteV)] (fun u L' => u = .int .i64 (wh.count 0 : Nat) ∧ L' = [row 89 q [.pointer (some ⟨p, 0, none⟩), .int .u32 at0, .int .i64 sz, .slice (some ⟨wb, 0, none⟩) wh.length wh.length], row 5 wb (wh.map byteV)]) := by
  refine Sat.enter Try.func21 rfl Try.ntmps21 rfl (fun c R => ?_)
  try simp only [List.cons_append, List.nil_append]
  refine T.seq ?_
  refine T.reg ?_
  refine TO.p (DP.as (by conv => lhs; whnf)) ?_
  refine TO.nil ?_
  refine TQ.nn ?_
  refine T.seq ?_
  refine T.seq ?_
  refine T.reg ?_
  refine TO.p (DP.mv (by conv => lhs; whnf)) ?_
  refine TO.p (DP.peqS rfl rfl Try.underlying46) ?_
  refine TO.nil ?_
  refine TQ.nn ?_
  refine T.condF rfl ?_
  refine T.skip ?_
  refine TQ.nn ?_
  refine T.seq ?_
  refine T.reg ?_
  refine TO.p (DP.as (by conv => lhs; whnf)) ?_
  refine TO.nil ?_
  refine TQ.nn ?_
  refine T.seq ?_
  refine T.seq ?_
  refine T.reg ?_
  refine TO.p (DP.mv (by conv => lhs; whnf)) ?_
  refine TO.p (DP.nck rfl) ?_
  refine TO.p (DP.fa 3 rfl Try.underlying89 rfl rfl sz49) ?_
  refine TO.d (D.ldR rfl pl49 (by (repeat first | exact LMem.head _ _ | apply LMem.tail)) (by rfl)) ?_
  refine TO.p (DP.lenS rfl Try.underlying49) ?_
  refine TO.p (DP.mv (by conv => lhs; whnf)) ?_
  refine TO.nil ?_
  refine TQ.nn ?_
  refine T.block ?_
  refine T.loop (S := Nat) 0 (fun i => [(3, .int .i64 ((wh.take i).count 0 : Nat)), (11, .slice (some ⟨wb, 0, none⟩) wh.length wh.length), (12, .int .i64 (wh.length : Nat)), (13, .int .i64 (i : Nat))]) (fun i => row 89 q [.pointer (some ⟨p, 0, none⟩), .int .u32 at0, .int .i64 sz, .slice (some ⟨wb, 0, none⟩) wh.length wh.length] :: row 5 wb (wh.map byteV) :: R) (fun i => i ≤ wh.length) (fun i => wh.length - i) ?_ ?_ ?_ ?_
  · (repeat first | exact trivial | refine ⟨rfl, ?_⟩)
  · (first | trivial | omega | simp)
  · exact Ent.refl _ _
  rintro i g hI
  refine T.seq ?_
  refine T.reg ?_
  refine TO.p (DP.lss rfl rfl) ?_
  refine TO.nil ?_
  refine TQ.nn ?_
  refine T.seq ?_
  refine T.condD rfl (fun hc1 => ?_) (fun hc1 => ?_)
  · obtain ⟨x, hx⟩ := get_some hc1
    have hcx : (wh.take (i + 1)).count 0 = (wh.take i).count 0 + (if x = 0 then 1 else 0) := by rw [List.take_add_one, hx, List.count_append]; simp [List.count_cons]
    have hcl := List.count_le_length (a := (0 : UInt8)) (l := wh.take i)
    have htl : (wh.take i).length = i := by rw [List.length_take]; omega
    refine T.skip ?_
    refine TQ.nn ?_
    refine T.seq ?_
    refine T.block ?_
    refine T.seq ?_
    refine T.reg ?_
    refine TO.p (DP.ias rfl rfl Try.underlying49 sz5 (by omega)) ?_
    refine TO.d (D.ldR (v := byteV x) rfl pl5 (by (repeat first | exact LMem.head _ _ | apply LMem.tail)) (by rw [List.getElem?_map]; simp [hx])) ?_
    refine TO.p (DP.as (by conv => lhs; whnf)) ?_
    refine TO.nil ?_
    refine TQ.nn ?_
    refine T.seq ?_
    refine T.reg ?_
    refine TO.p (DP.mv (by conv => lhs; whnf)) ?_
    refine TO.p (DP.eql (b := 0) rfl rfl) ?_
    refine TO.nil ?_
    refine TQ.nn ?_
    refine T.condD rfl (fun hc2 => ?_) (fun hc2 => ?_)
    · have hnx : (wh.take (i + 1)).count 0 = (wh.take i).count 0 + 1 := by rw [hcx, if_pos (UInt8.toNat_inj.1 (by simpa using hc2))]
      refine T.reg ?_
      refine TO.p (DP.mv (by conv => lhs; whnf)) ?_
      refine TO.p (DP.add (b := 1) rfl rfl (l := 9223372036854775808) rfl (by omega)) ?_
      refine TO.p (DP.as (by conv => lhs; whnf)) ?_
      refine TO.nil ?_
      refine TQ.bn ?_
      refine TQ.nn ?_
      refine T.reg ?_
      refine TO.p (DP.add (b := 1) rfl rfl (l := 9223372036854775808) rfl (by omega)) ?_
      refine TO.p (DP.mv (by conv => lhs; whnf)) ?_
      refine TO.nil ?_
      refine TQ.round (i + 1) rfl ?_ ?_ ?_ ?_
      · (repeat first | exact trivial | refine ⟨rfl, ?_⟩ | refine ⟨by rw [hnx] <;> rfl, ?_⟩)
      · omega
      · omega
      · exact Ent.refl _ _
    · have hnx : (wh.take (i + 1)).count 0 = (wh.take i).count 0 := by rw [hcx, if_neg (fun h => hc2 (by rw [h]; rfl))]; rfl
      refine T.skip ?_
      refine TQ.bn ?_
      refine TQ.nn ?_
      refine T.reg ?_
      refine TO.p (DP.add (b := 1) rfl rfl (l := 9223372036854775808) rfl (by omega)) ?_
      refine TO.p (DP.mv (by conv => lhs; whnf)) ?_
      refine TO.nil ?_
      refine TQ.round (i + 1) rfl ?_ ?_ ?_ ?_
      · (repeat first | exact trivial | refine ⟨rfl, ?_⟩ | refine ⟨by rw [hnx] <;> rfl, ?_⟩)
      · omega
      · omega
      · exact Ent.refl _ _
  · obtain rfl : i = wh.length := by omega
    refine T.exit ?_
    refine TQ.ne ?_
    refine TQ.le ?_
    refine TQ.be ?_
    refine TQ.nn ?_
    refine T.seq ?_
    refine T.reg ?_
    refine TO.p (DP.mv (by conv => lhs; whnf)) ?_
    refine TO.p (DP.as (by conv => lhs; whnf)) ?_
    refine TO.nil ?_
    refine TQ.nn ?_
    refine T.ret ?_
    refine TQ.ret (vs := [.int .i64 (wh.count 0 : Nat)]) (L' := [_, _]) rfl ⟨by rw [List.take_length]; rfl, rfl⟩ ⟨rfl, rfl⟩ (by (refine Ent.imp ?_; repeat first | exact Imp.refl _ | exact Imp.nil _ | (apply Imp.pull; focus ((repeat first | exact Del.head _ _ | apply Del.tail); done)) | (apply Imp.row; focus ((repeat first | exact Del.head _ _ | apply Del.tail); done)) | apply Imp.drop))

theorem left_nil  :
    Sat Try.prog 21 [.pointer none] [] (fun u L' => u = .int .i64 (0 : Nat) ∧ L' = []) := by
  refine Sat.enter Try.func21 rfl Try.ntmps21 rfl (fun c R => ?_)
  try simp only [List.cons_append, List.nil_append]
  refine T.seq ?_
  refine T.reg ?_
  refine TO.p (DP.as (by conv => lhs; whnf)) ?_
  refine TO.nil ?_
  refine TQ.nn ?_
  refine T.seq ?_
  refine T.seq ?_
  refine T.reg ?_
  refine TO.p (DP.mv (by conv => lhs; whnf)) ?_
  refine TO.p (DP.peq0 rfl rfl Try.underlying46) ?_
  refine TO.nil ?_
  refine TQ.nn ?_
  refine T.condT rfl ?_
  refine T.seq ?_
  refine T.reg ?_
  refine TO.p (DP.as (by conv => lhs; whnf)) ?_
  refine TO.nil ?_
  refine TQ.nn ?_
  refine T.ret ?_
  refine TQ.nr ?_
  refine TQ.ret (vs := [.int .i64 (0 : Nat)]) (L' := []) rfl ⟨rfl, rfl⟩ ⟨rfl, rfl⟩ (by (refine Ent.imp ?_; repeat first | exact Imp.refl _ | exact Imp.nil _ | (apply Imp.pull; focus ((repeat first | exact Del.head _ _ | apply Del.tail); done)) | (apply Imp.row; focus ((repeat first | exact Del.head _ _ | apply Del.tail); done)) | apply Imp.drop))

theorem index_some (wb : Nat) (wh : List UInt8) (y : UInt8) (k : Nat) (hk : wh[k]? = some y) (hbf : ∀ j, j < k → wh[j]? ≠ some y) (hl : wh.length ≤ 1048576) :
    Sat Try.prog 48 [.slice (some ⟨wb, 0, none⟩) wh.length wh.length, byteV y] [row 5 wb (wh.map byteV)] (fun u L' => u = .int .i64 (k : Nat) ∧ L' = [row 5 wb (wh.map byteV)]) := by
  refine Sat.enter Try.func48 rfl Try.ntmps48 rfl (fun c R => ?_)
  try simp only [List.cons_append, List.nil_append]
  have hkl : k < wh.length := by rcases Nat.lt_or_ge k wh.length with h | h; exact h; rw [List.getElem?_eq_none h] at hk; cases hk
  refine T.seq ?_
  refine T.reg ?_
  refine TO.p (DP.as (by conv => lhs; whnf)) ?_
  refine TO.nil ?_
  refine TQ.nn ?_
  refine T.seq ?_
  refine T.seq ?_
  refine T.reg ?_
  refine TO.p (DP.mv (by conv => lhs; whnf)) ?_
  refine TO.p (DP.lenS rfl Try.underlying49) ?_
  refine TO.p (DP.mv (by conv => lhs; whnf)) ?_
  refine TO.nil ?_
  refine TQ.nn ?_
  refine T.block ?_
  refine T.loop (S := Nat) 0 (fun i => [(0, .slice (some ⟨wb, 0, none⟩) wh.length wh.length), (1, byteV y), (7, .int .i64 (wh.length : Nat)), (8, .int .i64 (i : Nat))]) (fun i => row 5 wb (wh.map byteV) :: R) (fun i => i ≤ k) (fun i => wh.length - i) ?_ ?_ ?_ ?_
  · (repeat first | exact trivial | refine ⟨rfl, ?_⟩)
  · exact Nat.zero_le _
  · exact Ent.refl _ _
  rintro i g hI
  refine T.seq ?_
  refine T.reg ?_
  refine TO.p (DP.lss rfl rfl) ?_
  refine TO.nil ?_
  refine TQ.nn ?_
  refine T.seq ?_
  refine T.condD rfl (fun hc0 => ?_) (fun hc0 => ?_)
  · obtain ⟨x, hx⟩ := get_some hc0
    refine T.skip ?_
    refine TQ.nn ?_
    refine T.seq ?_
    refine T.block ?_
    refine T.seq ?_
    refine T.reg ?_
    refine TO.p (DP.mv (by conv => lhs; whnf)) ?_
    refine TO.p (DP.as (by conv => lhs; whnf)) ?_
    refine TO.nil ?_
    refine TQ.nn ?_
    refine T.seq ?_
    refine T.reg ?_
    refine TO.p (DP.mv (by conv => lhs; whnf)) ?_
    refine TO.p (DP.mv (by conv => lhs; whnf)) ?_
    refine TO.p (DP.mv (by conv => lhs; whnf)) ?_
    refine TO.p (DP.ias rfl rfl Try.underlying49 sz5 (by omega)) ?_
    refine TO.d (D.ldR (v := byteV x) rfl pl5 (by (repeat first | exact LMem.head _ _ | apply LMem.tail)) (by rw [List.getElem?_map]; simp [hx])) ?_
    refine TO.p (DP.eql rfl rfl) ?_
    refine TO.nil ?_
    refine TQ.nn ?_
    refine T.condD rfl (fun hc1 => ?_) (fun hc1 => ?_)
    · have hxy : x = y := UInt8.toNat_inj.1 hc1.symm
      subst hxy
      obtain rfl : i = k := by
        rcases Nat.lt_or_ge i k with h | h
        · exact absurd hx (hbf i h)
        · omega
      refine T.seq ?_
      refine T.reg ?_
      refine TO.p (DP.mv (by conv => lhs; whnf)) ?_
      refine TO.p (DP.as (by conv => lhs; whnf)) ?_
      refine TO.nil ?_
      refine TQ.nn ?_
      refine T.ret ?_
      refine TQ.br ?_
      refine TQ.nr ?_
      refine TQ.lr ?_
      refine TQ.br ?_
      refine TQ.nr ?_
      refine TQ.ret (vs := [.int .i64 (i : Nat)]) (L' := [_]) rfl ⟨rfl, rfl⟩ ⟨rfl, rfl⟩ (by (refine Ent.imp ?_; repeat first | exact Imp.refl _ | exact Imp.nil _ | (apply Imp.pull; focus ((repeat first | exact Del.head _ _ | apply Del.tail); done)) | (apply Imp.row; focus ((repeat first | exact Del.head _ _ | apply Del.tail); done)) | apply Imp.drop))
    · have hik : i ≠ k := by
        intro h; subst h; rw [hk] at hx; simp at hx; subst hx; exact hc1 rfl
      refine T.skip ?_
      refine TQ.bn ?_
      refine TQ.nn ?_
      refine T.reg ?_
      refine TO.p (DP.add (b := 1) rfl rfl (l := 9223372036854775808) rfl (by omega)) ?_
      refine TO.p (DP.mv (by conv => lhs; whnf)) ?_
      refine TO.nil ?_
      refine TQ.round (i + 1) rfl ?_ ?_ ?_ ?_
      · (repeat first | exact trivial | refine ⟨rfl, ?_⟩)
      · omega
      · omega
      · exact Ent.refl _ _
  · exact absurd hc0 (by omega)

theorem index_none (wb : Nat) (wh : List UInt8) (y : UInt8) (hn : y ∉ wh) (hl : wh.length ≤ 1048576) :
    Sat Try.prog 48 [.slice (some ⟨wb, 0, none⟩) wh.length wh.length, byteV y] [row 5 wb (wh.map byteV)] (fun u L' => u = .int .i64 (-1) ∧ L' = [row 5 wb (wh.map byteV)]) := by
  refine Sat.enter Try.func48 rfl Try.ntmps48 rfl (fun c R => ?_)
  try simp only [List.cons_append, List.nil_append]
  refine T.seq ?_
  refine T.reg ?_
  refine TO.p (DP.as (by conv => lhs; whnf)) ?_
  refine TO.nil ?_
  refine TQ.nn ?_
  refine T.seq ?_
  refine T.seq ?_
  refine T.reg ?_
  refine TO.p (DP.mv (by conv => lhs; whnf)) ?_
  refine TO.p (DP.lenS rfl Try.underlying49) ?_
  refine TO.p (DP.mv (by conv => lhs; whnf)) ?_
  refine TO.nil ?_
  refine TQ.nn ?_
  refine T.block ?_
  refine T.loop (S := Nat) 0 (fun i => [(0, .slice (some ⟨wb, 0, none⟩) wh.length wh.length), (1, byteV y), (7, .int .i64 (wh.length : Nat)), (8, .int .i64 (i : Nat))]) (fun i => row 5 wb (wh.map byteV) :: R) (fun i => i ≤ wh.length) (fun i => wh.length - i) ?_ ?_ ?_ ?_
  · (repeat first | exact trivial | refine ⟨rfl, ?_⟩)
  · exact Nat.zero_le _
  · exact Ent.refl _ _
  rintro i g hI
  refine T.seq ?_
  refine T.reg ?_
  refine TO.p (DP.lss rfl rfl) ?_
  refine TO.nil ?_
  refine TQ.nn ?_
  refine T.seq ?_
  refine T.condD rfl (fun hc0 => ?_) (fun hc0 => ?_)
  · obtain ⟨x, hx⟩ := get_some hc0
    refine T.skip ?_
    refine TQ.nn ?_
    refine T.seq ?_
    refine T.block ?_
    refine T.seq ?_
    refine T.reg ?_
    refine TO.p (DP.mv (by conv => lhs; whnf)) ?_
    refine TO.p (DP.as (by conv => lhs; whnf)) ?_
    refine TO.nil ?_
    refine TQ.nn ?_
    refine T.seq ?_
    refine T.reg ?_
    refine TO.p (DP.mv (by conv => lhs; whnf)) ?_
    refine TO.p (DP.mv (by conv => lhs; whnf)) ?_
    refine TO.p (DP.mv (by conv => lhs; whnf)) ?_
    refine TO.p (DP.ias rfl rfl Try.underlying49 sz5 (by omega)) ?_
    refine TO.d (D.ldR (v := byteV x) rfl pl5 (by (repeat first | exact LMem.head _ _ | apply LMem.tail)) (by rw [List.getElem?_map]; simp [hx])) ?_
    refine TO.p (DP.eql rfl rfl) ?_
    refine TO.nil ?_
    refine TQ.nn ?_
    refine T.condD rfl (fun hc1 => ?_) (fun hc1 => ?_)
    · exact absurd (by have hxy : x = y := UInt8.toNat_inj.1 hc1.symm; rw [← hxy]; exact mem_of_get hx) hn
    · refine T.skip ?_
      refine TQ.bn ?_
      refine TQ.nn ?_
      refine T.reg ?_
      refine TO.p (DP.add (b := 1) rfl rfl (l := 9223372036854775808) rfl (by omega)) ?_
      refine TO.p (DP.mv (by conv => lhs; whnf)) ?_
      refine TO.nil ?_
      refine TQ.round (i + 1) rfl ?_ ?_ ?_ ?_
      · (repeat first | exact trivial | refine ⟨rfl, ?_⟩)
      · omega
      · omega
      · exact Ent.refl _ _
  · refine T.exit ?_
    refine TQ.ne ?_
    refine TQ.le ?_
    refine TQ.be ?_
    refine TQ.nn ?_
    refine T.seq ?_
    refine T.reg ?_
    refine TO.p (DP.as (by conv => lhs; whnf)) ?_
    refine TO.nil ?_
    refine TQ.nn ?_
    refine T.ret ?_
    refine TQ.ret (vs := [.int .i64 (-1)]) (L' := [_]) rfl ⟨rfl, rfl⟩ ⟨rfl, rfl⟩ (by (refine Ent.imp ?_; repeat first | exact Imp.refl _ | exact Imp.nil _ | (apply Imp.pull; focus ((repeat first | exact Del.head _ _ | apply Del.tail); done)) | (apply Imp.row; focus ((repeat first | exact Del.head _ _ | apply Del.tail); done)) | apply Imp.drop))
end Go.Proofs.Ytpidkdkbgjnhlaa
