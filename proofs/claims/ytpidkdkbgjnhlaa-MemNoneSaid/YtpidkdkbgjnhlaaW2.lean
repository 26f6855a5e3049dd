/- Lemmas for the proofs of this seat: no statement of the seat is claimed here. -/
import Derived.Test.YtpidkdkbgjnhlaaTy
import Derived.Test.YtpidkdkbgjnhlaaL1
import Derived.Test.YtpidkdkbgjnhlaaW1
set_option linter.all false
namespace Go.Proofs.Ytpidkdkbgjnhlaa
open Go Pw
set_option maxRecDepth 20000
theorem shared_spec (p a l : Nat) (bv v : Value) (ss : List Spn) (hlen : ss.length ≤ 1048576) (hb : ∀ s ∈ ss, s.1 + s.2 ≤ 1048576) (ha : a < 4294967296) (hl : l < 4294967296) :
    Sat Try.prog 41 [.pointer (some ⟨p, 0, none⟩), .agg #[.int .u32 a, .int .u32 l]] [row 78 p [bv, v], sl 42 2 v ss.length (spans ss)] (fun u L' => u = .int .u64 (sharedN ss a l : Nat) ∧ L' = [row 78 p [bv, v], sl 42 2 v ss.length (spans ss)]) := by
  refine Sat.enter Try.func41 rfl Try.ntmps41 rfl (fun c R => ?_)
  try simp only [List.cons_append, List.nil_append]
  refine T.seq ?_
  refine T.reg ?_
  refine TO.n (N.bxA rfl) ?_
  rintro _ _ ⟨b3, rfl, rfl⟩
  refine TO.p (DP.as (by conv => lhs; whnf)) ?_
  refine TO.nil ?_
  refine TQ.nn ?_
  refine T.seq ?_
  refine T.seq ?_
  refine T.reg ?_
  refine TO.p (DP.mv (by conv => lhs; whnf)) ?_
  refine TO.p (DP.nck rfl) ?_
  refine TO.p (DP.fa 1 rfl Try.underlying78 rfl rfl sz36) ?_
  refine TO.d (D.ldR rfl pl36 (by (repeat first | exact LMem.head _ _ | apply LMem.tail)) (by rfl)) ?_
  refine TO.d (D.lenO (by conv => lhs; whnf) Try.underlying36 (by (repeat first | exact LMem.head _ _ | apply LMem.tail))) ?_
  refine TO.p (DP.mv (by conv => lhs; whnf)) ?_
  refine TO.nil ?_
  refine TQ.nn ?_
  refine T.block ?_
  refine T.loop (S := Nat) 0 (fun i => [(3, .pointer (some ⟨b3, 0, none⟩)), (4, .int .u64 ((sharedN (ss.take i) a l : Nat) : Int)), (12, v), (13, .int .i64 (ss.length : Nat)), (14, .int .i64 (i : Nat))]) (fun i => row 42 b3 [.int .u32 a, .int .u32 l] :: row 78 p [bv, v] :: sl 42 2 v ss.length (spans ss) :: R) (fun i => i ≤ ss.length) (fun i => ss.length - i) ?_ ?_ ?_ ?_
  · (repeat first | exact trivial | refine ⟨rfl, ?_⟩)
  · (first | trivial | omega | simp)
  · exact Ent.refl _ _
  rintro i g hI
  refine T.seq ?_
  refine T.reg ?_
  refine TO.p (DP.lss rfl rfl) ?_
  refine TO.nil ?_
  refine TQ.nn ?_
  refine T.seq ?_
  refine T.condD rfl (fun hc0 => ?_) (fun hc0 => ?_)
  · obtain ⟨s, hs⟩ := get_some hc0
    have hsb := hb s (mem_of_get hs)
    have hus := flat_elem spv_len hs
    have hst := sharedN_take_le ss i a l
    have hil := Nat.mul_le_mul (show i ≤ 1048576 by omega) (show l ≤ 4294967296 by omega)
    refine T.skip ?_
    refine TQ.nn ?_
    refine T.seq ?_
    refine T.block ?_
    refine T.seq ?_
    refine T.reg ?_
    refine TO.d (D.iasO (by conv => lhs; whnf) rfl Try.underlying36 sz42 (by (repeat first | exact LMem.head _ _ | apply LMem.tail)) (by omega)) ?_
    refine TO.d (D.ldOA (us := [.int .u32 s.1, .int .u32 s.2]) (by conv => lhs; whnf) ag42 sz42 (by (repeat first | exact LMem.head _ _ | apply LMem.tail)) (by omega) hus rfl) ?_
    refine TO.n (N.alA zr42) ?_
    rintro _ _ ⟨b6, rfl, rfl⟩
    refine TO.n0 (N.stA rfl rfl sz42 (by (repeat first | exact Put.head _ _ _ | apply Put.tail)) (by (simp [setAll])) (by (simp [Value.oneCell'])) (by rfl)) ?_
    rintro _ _ ⟨rfl, rfl⟩
    refine TO.nil ?_
    refine TQ.nn ?_
    refine T.seq ?_
    refine T.drawL [] mixed (by repeat first | exact Calm.rt | apply Calm.t | apply Calm.b | apply Calm.l | apply Calm.ct) ?_
    refine TR.p 0 rfl (by kernel_rfl) (DP.fa 0 rfl Try.underlying42 rfl rfl sz30) ?_
    refine TR.d 1 rfl (by kernel_rfl) (by kernel_rfl) (by (refine Ent.imp ?_; repeat first | exact Imp.refl _ | exact Imp.nil _ | (apply Imp.pull; focus ((repeat first | exact Del.head _ _ | apply Del.tail); done)) | (apply Imp.row; focus ((repeat first | exact Del.head _ _ | apply Del.tail); done)) | apply Imp.drop)) (D.ldR rfl pl30 (by (repeat first | exact LMem.head _ _ | apply LMem.tail)) (by rfl)) ?_
    refine TR.p 2 rfl (by kernel_rfl) (DP.fa 0 rfl Try.underlying42 rfl rfl sz30) ?_
    refine TR.d 3 rfl (by kernel_rfl) (by kernel_rfl) (by (refine Ent.imp ?_; repeat first | exact Imp.refl _ | exact Imp.nil _ | (apply Imp.pull; focus ((repeat first | exact Del.head _ _ | apply Del.tail); done)) | (apply Imp.row; focus ((repeat first | exact Del.head _ _ | apply Del.tail); done)) | apply Imp.drop)) (D.ldR rfl pl30 (by (repeat first | exact LMem.head _ _ | apply LMem.tail)) (by rfl)) ?_
    refine TR.p 4 rfl (by kernel_rfl) (DP.maxN rfl rfl) ?_
    refine TR.d 5 rfl (by kernel_rfl) (by kernel_rfl) (by (refine Ent.imp ?_; repeat first | exact Imp.refl _ | exact Imp.nil _ | (apply Imp.pull; focus ((repeat first | exact Del.head _ _ | apply Del.tail); done)) | (apply Imp.row; focus ((repeat first | exact Del.head _ _ | apply Del.tail); done)) | apply Imp.drop)) (D.ldRA rfl ag42 sz42 (by (repeat first | exact LMem.head _ _ | apply LMem.tail)) (by rfl)) ?_
    refine TR.d 7 rfl (by kernel_rfl) (by kernel_rfl) (by (refine Ent.imp ?_; repeat first | exact Imp.refl _ | exact Imp.nil _ | (apply Imp.pull; focus ((repeat first | exact Del.head _ _ | apply Del.tail); done)) | (apply Imp.row; focus ((repeat first | exact Del.head _ _ | apply Del.tail); done)) | apply Imp.drop)) (D.ldRA rfl ag42 sz42 (by (repeat first | exact LMem.head _ _ | apply LMem.tail)) (by rfl)) ?_
    refine TR.n 6 (by kernel_rfl) rfl (N.callF (end_spec s.1 s.2 (by omega) (by omega)) Try.call46 ⟨rfl, trivial⟩ (by (repeat first | exact Pick.nil _ | (apply Pick.cons; focus ((repeat first | exact Del.head _ _ | apply Del.tail); done))))) ?_
    rintro u24 _ ⟨_, ⟨rfl, rfl⟩, rfl⟩
    try simp only [List.cons_append, List.nil_append]
    refine ⟨.inr (by (refine Ent.imp ?_; repeat first | exact Imp.refl _ | exact Imp.nil _ | (apply Imp.pull; focus ((repeat first | exact Del.head _ _ | apply Del.tail); done)) | (apply Imp.row; focus ((repeat first | exact Del.head _ _ | apply Del.tail); done)) | apply Imp.drop)), ?_⟩
    refine TR.n 8 (by kernel_rfl) rfl (N.callF (end_spec a l (by omega) (by omega)) Try.call46 ⟨rfl, trivial⟩ (by (repeat first | exact Pick.nil _ | (apply Pick.cons; focus ((repeat first | exact Del.head _ _ | apply Del.tail); done))))) ?_
    rintro u26 _ ⟨_, ⟨rfl, rfl⟩, rfl⟩
    try simp only [List.cons_append, List.nil_append]
    refine ⟨.inr (by (refine Ent.imp ?_; repeat first | exact Imp.refl _ | exact Imp.nil _ | (apply Imp.pull; focus ((repeat first | exact Del.head _ _ | apply Del.tail); done)) | (apply Imp.row; focus ((repeat first | exact Del.head _ _ | apply Del.tail); done)) | apply Imp.drop)), ?_⟩
    refine TR.p 9 rfl (by kernel_rfl) (DP.minN rfl rfl) ?_
    refine TR.p 10 rfl (by kernel_rfl) (DP.as (by conv => lhs; whnf)) ?_
    refine TR.p 11 rfl (by kernel_rfl) (DP.as (by conv => lhs; whnf)) ?_
    refine TR.done (by kernel_rfl) ?_
    refine TQ.nn ?_
    refine T.seq ?_
    refine T.reg ?_
    refine TO.p (DP.mv (by conv => lhs; whnf)) ?_
    refine TO.p (DP.cv rfl is30 Try.underlying31 (l := 18446744073709551616) rfl (by omega)) ?_
    refine TO.p (DP.mv (by conv => lhs; whnf)) ?_
    refine TO.p (DP.lss rfl rfl) ?_
    refine TO.nil ?_
    refine TQ.nn ?_
    refine T.condD rfl (fun hc1 => ?_) (fun hc1 => ?_)
    · have hnx : sharedN (ss.take (i + 1)) a l = sharedN (ss.take i) a l + (min (s.1 + s.2) (a + l) - max s.1 a) := sharedN_succ hs a l
      refine T.reg ?_
      refine TO.p (DP.mv (by conv => lhs; whnf)) ?_
      refine TO.p (DP.mv (by conv => lhs; whnf)) ?_
      refine TO.p (DP.mv (by conv => lhs; whnf)) ?_
      refine TO.p (DP.cv rfl is30 Try.underlying31 (l := 18446744073709551616) rfl (by omega)) ?_
      refine TO.p (DP.sub rfl rfl (l := 18446744073709551616) rfl (by omega) (by omega)) ?_
      refine TO.p (DP.add rfl rfl (l := 18446744073709551616) rfl (by omega)) ?_
      refine TO.p (DP.as (by conv => lhs; whnf)) ?_
      refine TO.nil ?_
      refine TQ.bn ?_
      refine TQ.nn ?_
      refine T.reg ?_
      refine TO.p (DP.add (b := 1) rfl rfl (l := 9223372036854775808) rfl (by omega)) ?_
      refine TO.p (DP.mv (by conv => lhs; whnf)) ?_
      refine TO.nil ?_
      refine TQ.round (i + 1) rfl ?_ ?_ ?_ ?_
      · (repeat first | exact trivial | refine ⟨rfl, ?_⟩ | refine ⟨by first | (rw [hnx] <;> rfl) | (rw [hnx0] <;> rfl), ?_⟩)
      · omega
      · omega
      · exact .drop (.refl _ _)
    · have hnx0 : sharedN (ss.take (i + 1)) a l = sharedN (ss.take i) a l := by rw [sharedN_succ hs a l]; unfold ovl; omega
      refine T.skip ?_
      refine TQ.bn ?_
      refine TQ.nn ?_
      refine T.reg ?_
      refine TO.p (DP.add (b := 1) rfl rfl (l := 9223372036854775808) rfl (by omega)) ?_
      refine TO.p (DP.mv (by conv => lhs; whnf)) ?_
      refine TO.nil ?_
      refine TQ.round (i + 1) rfl ?_ ?_ ?_ ?_
      · (repeat first | exact trivial | refine ⟨rfl, ?_⟩ | refine ⟨by first | (rw [hnx] <;> rfl) | (rw [hnx0] <;> rfl), ?_⟩)
      · omega
      · omega
      · exact .drop (.refl _ _)
  · obtain rfl : i = ss.length := by omega
    refine T.exit ?_
    refine TQ.ne ?_
    refine TQ.le ?_
    refine TQ.be ?_
    refine TQ.nn ?_
    refine T.seq ?_
    refine T.reg ?_
    refine TO.p (DP.mv (by conv => lhs; whnf)) ?_
    refine TO.p (DP.as (by conv => lhs; whnf)) ?_
    refine TO.nil ?_
    refine TQ.nn ?_
    refine T.ret ?_
    refine TQ.ret (vs := [.int .u64 (sharedN ss a l : Nat)]) (L' := [_, _]) rfl ⟨by rw [sharedN_all]; rfl, rfl⟩ ⟨rfl, rfl⟩ (.drop (.refl _ _))
end Go.Proofs.Ytpidkdkbgjnhlaa
