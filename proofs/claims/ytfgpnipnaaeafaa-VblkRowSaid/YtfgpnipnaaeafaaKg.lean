/- Lemmas for the proofs of this seat: no statement of the seat is claimed here. -/
import Derived.Test.YtfgpnipnaaeafaaKd
import Derived.Test.YtfgpnipnaaeafaaKf
set_option linter.all false

namespace Go.Proofs.Ytfgpnipnaaeafaa
open Go Pw
set_option maxRecDepth 20000
theorem span_ok (p n b a l : Nat) (v : Value) (hn : n ≤ 1048576) (ha : a < 4294967296) (hl : l < 4294967296) (h0 : 0 < l) (h : a + l ≤ n) :
    Sat Try.prog 61 [.pointer (some ⟨p, 0, none⟩), .agg #[.int .u32 a, .int .u32 l]] [row 70 p [.slice (some ⟨b, 0, none⟩) n n, v]] (fun u L' => u = .int .i64 0 ∧ L' = [row 70 p [.slice (some ⟨b, 0, none⟩) n n, v]]) := by
  refine Sat.enter Try.func61 rfl Try.ntmps61 rfl (fun c R => ?_)
  try simp only [List.cons_append, List.nil_append]
  refine T.seq ?_
  refine T.reg ?_
  refine TO.n (N.bxA rfl) ?_
  rintro _ _ ⟨b3, rfl, rfl⟩
  refine TO.p (DP.as (by conv => lhs; whnf)) ?_
  refine TO.nil ?_
  refine TQ.nn ?_
  refine T.seq ?_
  refine T.block ?_
  refine T.seq ?_
  refine T.reg ?_
  refine TO.p (DP.mv (by conv => lhs; whnf)) ?_
  refine TO.p (DP.peqS rfl rfl Try.underlying25) ?_
  refine TO.p (DP.as (by conv => lhs; whnf)) ?_
  refine TO.nil ?_
  refine TQ.nn ?_
  refine T.condF rfl ?_
  refine T.seq ?_
  refine T.drawL [] mixed (by repeat first | exact Calm.rt | apply Calm.t | apply Calm.b | apply Calm.l | apply Calm.ct) ?_
  refine TR.p 0 rfl (by kernel_rfl) (DP.fa 1 rfl Try.underlying110 rfl rfl sz30) ?_
  refine TR.d 1 rfl (by kernel_rfl) (by kernel_rfl) (by (refine Ent.imp ?_; repeat first | exact Imp.refl _ | exact Imp.nil _ | (apply Imp.pull; focus ((repeat first | exact Del.head _ _ | apply Del.tail); done)) | (apply Imp.row; focus ((repeat first | exact Del.head _ _ | apply Del.tail); done)) | apply Imp.drop)) (D.ldR rfl pl30 (by (repeat first | exact LMem.head _ _ | apply LMem.tail)) (by rfl)) ?_
  refine TR.p 2 rfl (by kernel_rfl) (DP.eql (b := 0) rfl rfl) ?_
  refine TR.pB 3 rfl (by kernel_rfl) (DP.mv (by conv => lhs; whnf)) (fun hg12 => ?_) (fun hg12 => ?_)
  · exact absurd hg12 (by omega)
  · refine TR.don 4 rfl (by kernel_rfl) (by kernel_rfl) (by (refine Ent.imp ?_; repeat first | exact Imp.refl _ | exact Imp.nil _ | (apply Imp.pull; focus ((repeat first | exact Del.head _ _ | apply Del.tail); done)) | (apply Imp.row; focus ((repeat first | exact Del.head _ _ | apply Del.tail); done)) | apply Imp.drop)) rfl (D.ldRA rfl ag110 sz110 (by (repeat first | exact LMem.head _ _ | apply LMem.tail)) (by rfl)) ?_
    refine TR.pon 6 rfl (by kernel_rfl) rfl (DP.mv (by conv => lhs; whnf)) ?_
    refine TR.pon 7 rfl (by kernel_rfl) rfl (DP.nck rfl) ?_
    refine TR.pon 8 rfl (by kernel_rfl) rfl (DP.fa 0 rfl Try.underlying70 rfl rfl sz59) ?_
    refine TR.don 9 rfl (by kernel_rfl) (by kernel_rfl) (by (refine Ent.imp ?_; repeat first | exact Imp.refl _ | exact Imp.nil _ | (apply Imp.pull; focus ((repeat first | exact Del.head _ _ | apply Del.tail); done)) | (apply Imp.row; focus ((repeat first | exact Del.head _ _ | apply Del.tail); done)) | apply Imp.drop)) rfl (D.ldR rfl pl59 (by (repeat first | exact LMem.head _ _ | apply LMem.tail)) (by rfl)) ?_
    refine TR.pon 10 rfl (by kernel_rfl) rfl (DP.lenS rfl Try.underlying59) ?_
    refine TR.pon 11 rfl (by kernel_rfl) rfl (DP.cv rfl is3 Try.underlying63 (l := 18446744073709551616) rfl (by omega)) ?_
    refine TR.non 5 (by kernel_rfl) rfl rfl (N.callF (end_spec a l ha hl) Try.call65 ⟨rfl, trivial⟩ (by (repeat first | exact Pick.nil _ | (apply Pick.cons; focus ((repeat first | exact Del.head _ _ | apply Del.tail); done))))) ?_
    rintro u14 _ ⟨_, ⟨rfl, rfl⟩, rfl⟩
    try simp only [List.cons_append, List.nil_append]
    refine ⟨.inr (by (refine Ent.imp ?_; repeat first | exact Imp.refl _ | exact Imp.nil _ | (apply Imp.pull; focus ((repeat first | exact Del.head _ _ | apply Del.tail); done)) | (apply Imp.row; focus ((repeat first | exact Del.head _ _ | apply Del.tail); done)) | apply Imp.drop)), ?_⟩
    refine TR.pon 12 rfl (by kernel_rfl) rfl (DP.gtr rfl rfl) ?_
    refine TR.p 13 rfl (by kernel_rfl) (DP.pkF rfl (by conv => lhs; whnf)) ?_
    refine TR.p 14 rfl (by kernel_rfl) (DP.as (by conv => lhs; whnf)) ?_
    refine TR.done (by kernel_rfl) ?_
    refine TQ.nn ?_
    refine T.condD rfl (fun hc1 => ?_) (fun hc1 => ?_)
    · exact absurd hc1 (by omega)
    · refine T.skip ?_
      refine TQ.bn ?_
      refine TQ.nn ?_
      refine T.seq ?_
      refine T.reg ?_
      refine TO.p (DP.as (by conv => lhs; whnf)) ?_
      refine TO.nil ?_
      refine TQ.nn ?_
      refine T.ret ?_
      refine TQ.ret (vs := [.int .i64 0]) (L' := [_]) rfl ⟨rfl, rfl⟩ ⟨rfl, rfl⟩ (by (refine Ent.imp ?_; repeat first | exact Imp.refl _ | exact Imp.nil _ | (apply Imp.pull; focus ((repeat first | exact Del.head _ _ | apply Del.tail); done)) | (apply Imp.row; focus ((repeat first | exact Del.head _ _ | apply Del.tail); done)) | apply Imp.drop))

theorem span_out (p n b a l : Nat) (v : Value) (hn : n ≤ 1048576) (ha : a < 4294967296) (hl : l < 4294967296) (h : l = 0 ∨ n < a + l) :
    Sat Try.prog 61 [.pointer (some ⟨p, 0, none⟩), .agg #[.int .u32 a, .int .u32 l]] [row 70 p [.slice (some ⟨b, 0, none⟩) n n, v]] (fun u L' => u = .int .i64 10 ∧ L' = [row 70 p [.slice (some ⟨b, 0, none⟩) n n, v]]) := by
  refine Sat.enter Try.func61 rfl Try.ntmps61 rfl (fun c R => ?_)
  try simp only [List.cons_append, List.nil_append]
  refine T.seq ?_
  refine T.reg ?_
  refine TO.n (N.bxA rfl) ?_
  rintro _ _ ⟨b3, rfl, rfl⟩
  refine TO.p (DP.as (by conv => lhs; whnf)) ?_
  refine TO.nil ?_
  refine TQ.nn ?_
  refine T.seq ?_
  refine T.block ?_
  refine T.seq ?_
  refine T.reg ?_
  refine TO.p (DP.mv (by conv => lhs; whnf)) ?_
  refine TO.p (DP.peqS rfl rfl Try.underlying25) ?_
  refine TO.p (DP.as (by conv => lhs; whnf)) ?_
  refine TO.nil ?_
  refine TQ.nn ?_
  refine T.condF rfl ?_
  refine T.seq ?_
  refine T.drawL [] mixed (by repeat first | exact Calm.rt | apply Calm.t | apply Calm.b | apply Calm.l | apply Calm.ct) ?_
  refine TR.p 0 rfl (by kernel_rfl) (DP.fa 1 rfl Try.underlying110 rfl rfl sz30) ?_
  refine TR.d 1 rfl (by kernel_rfl) (by kernel_rfl) (by (refine Ent.imp ?_; repeat first | exact Imp.refl _ | exact Imp.nil _ | (apply Imp.pull; focus ((repeat first | exact Del.head _ _ | apply Del.tail); done)) | (apply Imp.row; focus ((repeat first | exact Del.head _ _ | apply Del.tail); done)) | apply Imp.drop)) (D.ldR rfl pl30 (by (repeat first | exact LMem.head _ _ | apply LMem.tail)) (by rfl)) ?_
  refine TR.p 2 rfl (by kernel_rfl) (DP.eql (b := 0) rfl rfl) ?_
  refine TR.pB 3 rfl (by kernel_rfl) (DP.mv (by conv => lhs; whnf)) (fun hg12 => ?_) (fun hg12 => ?_)
  · refine TR.off 4 rfl (by kernel_rfl) rfl rfl ?_
    refine TR.off 5 rfl (by kernel_rfl) rfl rfl ?_
    refine TR.off 6 rfl (by kernel_rfl) rfl rfl ?_
    refine TR.off 7 rfl (by kernel_rfl) rfl rfl ?_
    refine TR.off 8 rfl (by kernel_rfl) rfl rfl ?_
    refine TR.off 9 rfl (by kernel_rfl) rfl rfl ?_
    refine TR.off 10 rfl (by kernel_rfl) rfl rfl ?_
    refine TR.off 11 rfl (by kernel_rfl) rfl rfl ?_
    refine TR.off 12 rfl (by kernel_rfl) rfl rfl ?_
    refine TR.p 13 rfl (by kernel_rfl) (DP.pkT rfl (by conv => lhs; whnf)) ?_
    refine TR.p 14 rfl (by kernel_rfl) (DP.as (by conv => lhs; whnf)) ?_
    refine TR.done (by kernel_rfl) ?_
    refine TQ.nn ?_
    refine T.condT rfl ?_
    refine T.seq ?_
    refine T.reg ?_
    refine TO.p (DP.as (by conv => lhs; whnf)) ?_
    refine TO.nil ?_
    refine TQ.nn ?_
    refine T.ret ?_
    refine TQ.br ?_
    refine TQ.nr ?_
    refine TQ.ret (vs := [.int .i64 10]) (L' := [_]) rfl ⟨rfl, rfl⟩ ⟨rfl, rfl⟩ (by (refine Ent.imp ?_; repeat first | exact Imp.refl _ | exact Imp.nil _ | (apply Imp.pull; focus ((repeat first | exact Del.head _ _ | apply Del.tail); done)) | (apply Imp.row; focus ((repeat first | exact Del.head _ _ | apply Del.tail); done)) | apply Imp.drop))
  · refine TR.don 4 rfl (by kernel_rfl) (by kernel_rfl) (by (refine Ent.imp ?_; repeat first | exact Imp.refl _ | exact Imp.nil _ | (apply Imp.pull; focus ((repeat first | exact Del.head _ _ | apply Del.tail); done)) | (apply Imp.row; focus ((repeat first | exact Del.head _ _ | apply Del.tail); done)) | apply Imp.drop)) rfl (D.ldRA rfl ag110 sz110 (by (repeat first | exact LMem.head _ _ | apply LMem.tail)) (by rfl)) ?_
    refine TR.pon 6 rfl (by kernel_rfl) rfl (DP.mv (by conv => lhs; whnf)) ?_
    refine TR.pon 7 rfl (by kernel_rfl) rfl (DP.nck rfl) ?_
    refine TR.pon 8 rfl (by kernel_rfl) rfl (DP.fa 0 rfl Try.underlying70 rfl rfl sz59) ?_
    refine TR.don 9 rfl (by kernel_rfl) (by kernel_rfl) (by (refine Ent.imp ?_; repeat first | exact Imp.refl _ | exact Imp.nil _ | (apply Imp.pull; focus ((repeat first | exact Del.head _ _ | apply Del.tail); done)) | (apply Imp.row; focus ((repeat first | exact Del.head _ _ | apply Del.tail); done)) | apply Imp.drop)) rfl (D.ldR rfl pl59 (by (repeat first | exact LMem.head _ _ | apply LMem.tail)) (by rfl)) ?_
    refine TR.pon 10 rfl (by kernel_rfl) rfl (DP.lenS rfl Try.underlying59) ?_
    refine TR.pon 11 rfl (by kernel_rfl) rfl (DP.cv rfl is3 Try.underlying63 (l := 18446744073709551616) rfl (by omega)) ?_
    refine TR.non 5 (by kernel_rfl) rfl rfl (N.callF (end_spec a l ha hl) Try.call65 ⟨rfl, trivial⟩ (by (repeat first | exact Pick.nil _ | (apply Pick.cons; focus ((repeat first | exact Del.head _ _ | apply Del.tail); done))))) ?_
    rintro u14 _ ⟨_, ⟨rfl, rfl⟩, rfl⟩
    try simp only [List.cons_append, List.nil_append]
    refine ⟨.inr (by (refine Ent.imp ?_; repeat first | exact Imp.refl _ | exact Imp.nil _ | (apply Imp.pull; focus ((repeat first | exact Del.head _ _ | apply Del.tail); done)) | (apply Imp.row; focus ((repeat first | exact Del.head _ _ | apply Del.tail); done)) | apply Imp.drop)), ?_⟩
    refine TR.pon 12 rfl (by kernel_rfl) rfl (DP.gtr rfl rfl) ?_
    refine TR.p 13 rfl (by kernel_rfl) (DP.pkF rfl (by conv => lhs; whnf)) ?_
    refine TR.p 14 rfl (by kernel_rfl) (DP.as (by conv => lhs; whnf)) ?_
    refine TR.done (by kernel_rfl) ?_
    refine TQ.nn ?_
    refine T.condD rfl (fun hc1 => ?_) (fun hc1 => ?_)
    · refine T.seq ?_
      refine T.reg ?_
      refine TO.p (DP.as (by conv => lhs; whnf)) ?_
      refine TO.nil ?_
      refine TQ.nn ?_
      refine T.ret ?_
      refine TQ.br ?_
      refine TQ.nr ?_
      refine TQ.ret (vs := [.int .i64 10]) (L' := [_]) rfl ⟨rfl, rfl⟩ ⟨rfl, rfl⟩ (by (refine Ent.imp ?_; repeat first | exact Imp.refl _ | exact Imp.nil _ | (apply Imp.pull; focus ((repeat first | exact Del.head _ _ | apply Del.tail); done)) | (apply Imp.row; focus ((repeat first | exact Del.head _ _ | apply Del.tail); done)) | apply Imp.drop))
    · exact absurd hc1 (by omega)

theorem span_nil (a l : Nat) :
    Sat Try.prog 61 [.pointer none, .agg #[.int .u32 a, .int .u32 l]] [] (fun u L' => u = .int .i64 1 ∧ L' = []) := by
  refine Sat.enter Try.func61 rfl Try.ntmps61 rfl (fun c R => ?_)
  try simp only [List.cons_append, List.nil_append]
  refine T.seq ?_
  refine T.reg ?_
  refine TO.n (N.bxA rfl) ?_
  rintro _ _ ⟨b3, rfl, rfl⟩
  refine TO.p (DP.as (by conv => lhs; whnf)) ?_
  refine TO.nil ?_
  refine TQ.nn ?_
  refine T.seq ?_
  refine T.block ?_
  refine T.seq ?_
  refine T.reg ?_
  refine TO.p (DP.mv (by conv => lhs; whnf)) ?_
  refine TO.p (DP.peq0 rfl rfl Try.underlying25) ?_
  refine TO.p (DP.as (by conv => lhs; whnf)) ?_
  refine TO.nil ?_
  refine TQ.nn ?_
  refine T.condT rfl ?_
  refine T.seq ?_
  refine T.reg ?_
  refine TO.p (DP.as (by conv => lhs; whnf)) ?_
  refine TO.nil ?_
  refine TQ.nn ?_
  refine T.ret ?_
  refine TQ.br ?_
  refine TQ.nr ?_
  refine TQ.ret (vs := [.int .i64 1]) (L' := []) rfl ⟨rfl, rfl⟩ ⟨rfl, rfl⟩ (by (refine Ent.imp ?_; repeat first | exact Imp.refl _ | exact Imp.nil _ | (apply Imp.pull; focus ((repeat first | exact Del.head _ _ | apply Del.tail); done)) | (apply Imp.row; focus ((repeat first | exact Del.head _ _ | apply Del.tail); done)) | apply Imp.drop))

theorem cmp_spec (a1 l1 a2 l2 : Nat) (h1 : a1 < 4294967296) (h2 : a2 < 4294967296) :
    Sat Try.prog 63 [.agg #[.int .u32 a1, .int .u32 l1], .agg #[.int .u32 a2, .int .u32 l2]] [] (fun u L' => u = .int .i64 ((a1 : Int) - (a2 : Int)) ∧ L' = []) := by
  refine Sat.enter Try.func63 rfl Try.ntmps63 rfl (fun c R => ?_)
  try simp only [List.cons_append, List.nil_append]
  refine T.seq ?_
  refine T.reg ?_
  refine TO.n (N.bxA rfl) ?_
  rintro _ _ ⟨b2, rfl, rfl⟩
  refine TO.n (N.bxA rfl) ?_
  rintro _ _ ⟨b3, rfl, rfl⟩
  refine TO.p (DP.as (by conv => lhs; whnf)) ?_
  refine TO.nil ?_
  refine TQ.nn ?_
  refine T.seq ?_
  refine T.reg ?_
  refine TO.p (DP.fa 0 rfl Try.underlying110 rfl rfl sz30) ?_
  refine TO.d (D.ldR rfl pl30 (by (repeat first | exact LMem.head _ _ | apply LMem.tail)) (by rfl)) ?_
  refine TO.p (DP.cv rfl is30 Try.underlying3 (l := 9223372036854775808) rfl (by omega)) ?_
  refine TO.p (DP.fa 0 rfl Try.underlying110 rfl rfl sz30) ?_
  refine TO.d (D.ldR rfl pl30 (by (repeat first | exact LMem.head _ _ | apply LMem.tail)) (by rfl)) ?_
  refine TO.p (DP.cv rfl is30 Try.underlying3 (l := 9223372036854775808) rfl (by omega)) ?_
  refine TO.p (DP.subI rfl rfl (by simp [IntKind.fits, IntKind.lim, IntKind.signed, IntKind.bits]; omega)) ?_
  refine TO.p (DP.as (by conv => lhs; whnf)) ?_
  refine TO.nil ?_
  refine TQ.nn ?_
  refine T.ret ?_
  refine TQ.ret (vs := [.int .i64 ((a1 : Int) - (a2 : Int))]) (L' := []) rfl ⟨rfl, rfl⟩ ⟨rfl, rfl⟩ (by (refine Ent.imp ?_; repeat first | exact Imp.refl _ | exact Imp.nil _ | (apply Imp.pull; focus ((repeat first | exact Del.head _ _ | apply Del.tail); done)) | (apply Imp.row; focus ((repeat first | exact Del.head _ _ | apply Del.tail); done)) | apply Imp.drop))
end Go.Proofs.Ytfgpnipnaaeafaa

