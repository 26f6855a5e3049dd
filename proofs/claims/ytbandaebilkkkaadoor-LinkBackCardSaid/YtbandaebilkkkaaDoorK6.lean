/- Lemmas for the proofs of this seat: no statement of the seat is claimed here. -/
import Derived.Test.YtbandaebilkkkaaDoorK5
set_option linter.all false
namespace Go.Proofs.YtbandaebilkkkaaDoor
open Go Pw
set_option maxRecDepth 20000
set_option maxHeartbeats 4000000
theorem pc34 : placesOf Tryd.prog 34 = some [(0, 1), (1, 1), (2, 1), (3, 1), (4, 1)] := by kernel_rfl
theorem pc48 : placesOf Tryd.prog 48 = some [(0, 1), (1, 1), (2, 1), (3, 1)] := by kernel_rfl
theorem zr34 : Tryd.prog.zeroOf 34 = some (.agg #[.int .u16 0, .string ⟨#[]⟩, .int .u32 0, .string ⟨#[]⟩, .int .u32 0]) := by kernel_rfl
theorem zr48 : Tryd.prog.zeroOf 48 = some (.agg #[.string ⟨#[]⟩, .string ⟨#[]⟩, .int .u16 0, .string ⟨#[]⟩]) := by kernel_rfl

def tyE (s : List UInt8) : Nat := valE ((s.take 14).drop 12) % 65536
def frOf (s : List UInt8) : Fr := ⟨s.take 6, (s.take 12).drop 6, tyE s, s.drop 14⟩
theorem decE_short (s : List UInt8) (h : s.length < 14) : decE s = (fr0, 7) := if_pos h
theorem decE_type (s : List UInt8) (h : ¬ s.length < 14) (h2 : tyE s < 1536) : decE s = (fr0, 170) := by unfold decE; rw [if_neg h]; exact if_pos h2
theorem decE_long (s : List UInt8) (h : ¬ s.length < 14) (h2 : ¬ tyE s < 1536) (h3 : 1500 < s.length - 14) : decE s = (fr0, 4) := by unfold decE; rw [if_neg h]; exact (if_neg h2).trans (if_pos h3)
theorem decE_ok (s : List UInt8) (h : ¬ s.length < 14) (h2 : ¬ tyE s < 1536) (h3 : ¬ 1500 < s.length - 14) : decE s = (frOf s, 0) := by unfold decE; rw [if_neg h]; exact (if_neg h2).trans (if_neg h3)
theorem decA_short (s : List UInt8) (h : s.length < 28) : decA s = (ar0, 7) := if_pos h
theorem decA_bad (s : List UInt8) (h : ¬ s.length < 28) (h2 : ¬ (s.take 6 = hdE ∧ mayE (arOf s) = true)) : decA s = (ar0, 8) := by unfold decA; rw [if_neg h, if_neg h2]
theorem decA_ok (s : List UInt8) (h : ¬ s.length < 28) (h2 : s.take 6 = hdE) (h3 : mayE (arOf s) = true) : decA s = (arOf s, 0) := by unfold decA; rw [if_neg h, if_pos ⟨h2, h3⟩]
theorem dec_spec (s : List UInt8) (hs : s.length ≤ 1048576) :
    Sat Tryd.prog 20 [str s] [] (fun u L' => u = .tuple #[.agg (frV (decE s).1).toArray, .int .i64 ((decE s).2 : Nat)] ∧ L' = []) := by
  refine Sat.enter Tryd.func20 rfl Tryd.ntmps20 rfl (fun c R => ?_)
  try simp only [List.cons_append, List.nil_append]
  refine T.seq ?_
  refine T.reg ?_
  refine TO.n (N.alA zr48) ?_
  rintro _ _ ⟨b2, rfl, rfl⟩
  refine TO.p (DP.as (by conv => lhs; whnf)) ?_
  refine TO.nil ?_
  refine TQ.nn ?_
  refine T.seq ?_
  refine T.seq ?_
  refine T.reg ?_
  refine TO.p (DP.mv (by conv => lhs; whnf)) ?_
  refine TO.p (DP.lenT rfl Tryd.underlying9) ?_
  refine TO.p ((by first | exact DP.lss (b := 14) rfl rfl | exact DP.lssI rfl rfl)) ?_
  refine TO.nil ?_
  refine TQ.nn ?_
  refine T.condD rfl (fun hc0 => ?_) (fun hc0 => ?_)
  · refine T.seq ?_
    refine T.reg ?_
    refine TO.p (DP.bdL (vs := []) (us := frV fr0) trivial pc48 zr48 rfl) ?_
    refine TO.n0 (N.stA (vs := frV fr0) rfl rfl sz48 (by (repeat first | exact Put.head _ _ _ | apply Put.tail)) (by simp [frV, arV, fr0, ar0]) (by simp [frV, arV, fr0, ar0, str, Value.oneCell']) (by rfl)) ?_
    rintro _ _ ⟨rfl, rfl⟩
    rw [show setAll _ 0 (frV fr0) = frV fr0 from rfl]
    refine TO.p (DP.as (by conv => lhs; whnf)) ?_
    refine TO.nil ?_
    refine TQ.nn ?_
    refine T.ret ?_
    refine TQ.nr ?_
    rw [decE_short s hc0]
    refine TQ.ret (vs := [.agg (frV fr0).toArray, .int .i64 (7 : Nat)]) (L' := []) rfl ⟨RV.atA rfl ag48 sz48 (by (repeat first | exact LMem.head _ _ | apply LMem.tail)) rfl, rfl, rfl⟩ ⟨rfl, rfl⟩ (by (refine Ent.imp ?_; repeat first | exact Imp.refl _ | exact Imp.nil _ | (apply Imp.pull; focus ((repeat first | exact Del.head _ _ | apply Del.tail); done)) | (apply Imp.row; focus ((repeat first | exact Del.head _ _ | apply Del.tail); done)) | apply Imp.drop))
  · refine T.skip ?_
    refine TQ.nn ?_
    refine T.seq ?_
    refine T.drawL [6, 11, 12] mixed (by repeat first | exact Calm.rt | apply Calm.t | apply Calm.b | apply Calm.l | apply Calm.ct) ?_
    refine TR.p 0 rfl (by kernel_rfl) (DP.mv (by conv => lhs; whnf)) ?_
    refine TR.p 1 rfl (by kernel_rfl) (DP.slTh (j := 6) rfl rfl Tryd.underlying9 (by omega)) ?_
    refine TR.p 2 rfl (by kernel_rfl) (DP.mv (by conv => lhs; whnf)) ?_
    refine TR.p 3 rfl (by kernel_rfl) (DP.slT (i := 6) (j := 12) rfl rfl rfl Tryd.underlying9 (by omega) (by omega)) ?_
    refine TR.p 4 rfl (by kernel_rfl) (DP.mv (by conv => lhs; whnf)) ?_
    refine TR.p 5 rfl (by kernel_rfl) (DP.slT (i := 12) (j := 14) rfl rfl rfl Tryd.underlying9 (by omega) (by omega)) ?_
    refine TR.p 8 rfl (by kernel_rfl) (DP.mv (by conv => lhs; whnf)) ?_
    refine TR.p 9 rfl (by kernel_rfl) (DP.slTl (i := 14) rfl rfl Tryd.underlying9 (by omega)) ?_
    refine TR.two 6 11 (by kernel_rfl) rfl (N.callF (value_spec ((s.take 14).drop 12) (by simp; omega)) Tryd.call44 ⟨rfl, trivial⟩ (by (repeat first | exact Pick.nil _ | (apply Pick.cons; focus ((repeat first | exact Del.head _ _ | apply Del.tail); done))))) rfl (N.alA zr48) ?_ ?_
    · rintro u15 _ ⟨_, ⟨rfl, rfl⟩, rfl⟩
      try simp only [List.cons_append, List.nil_append]
      refine ⟨.inl rfl, ?_⟩
      refine TR.p 7 rfl (by kernel_rfl) (DP.to (v' := .int .u16 (tyE s : Nat)) (DP.cvW rfl is31 Tryd.underlying22 rfl (l := 65536) rfl) rfl) ?_
      refine TR.p 10 rfl (by kernel_rfl) (DP.bdL (vs := [(0, _), (1, _), (2, _), (3, _)]) (us := frV (frOf s)) ⟨rfl, rfl, rfl, rfl, rfl, rfl, rfl, rfl, trivial⟩ pc48 zr48 rfl) ?_
      refine TR.n 11 (by kernel_rfl) rfl (N.alA zr48) ?_
      rintro _ _ ⟨b4, rfl, rfl⟩
      refine ⟨.inl rfl, ?_⟩
      refine TR.n0 12 (by kernel_rfl) rfl (N.stA (vs := frV (frOf s)) rfl rfl sz48 (by (repeat first | exact Put.head _ _ _ | apply Put.tail)) (by simp [frV, arV, fr0, ar0]) (by simp [frV, arV, fr0, ar0, str, Value.oneCell']) (by rfl)) ?_
      rintro _ _ ⟨rfl, rfl⟩
      rw [show setAll _ 0 (frV (frOf s)) = frV (frOf s) from rfl]
      refine ⟨.inl rfl, ?_⟩
      refine TR.done (by kernel_rfl) ?_
      refine TQ.nn ?_
      refine T.seq ?_
      refine T.block ?_
      refine T.seq ?_
      refine T.reg ?_
      refine TO.p (DP.fa 2 rfl Tryd.underlying48 rfl rfl sz22) ?_
      have hty : tyE s < 65536 := Nat.mod_lt _ (by decide)
      refine TO.d (D.ldR (v := .int .u16 (tyE s : Nat)) rfl pl22 (by (repeat first | exact LMem.head _ _ | apply LMem.tail)) rfl) ?_
      refine TO.p ((by first | exact DP.lss (b := 1536) rfl rfl | exact DP.lssI rfl rfl)) ?_
      refine TO.p (DP.as (by conv => lhs; whnf)) ?_
      refine TO.nil ?_
      refine TQ.nn ?_
      refine T.condD rfl (fun hc1 => ?_) (fun hc1 => ?_)
      · refine T.seq ?_
        refine T.reg ?_
        refine TO.p (DP.bdL (vs := []) (us := frV fr0) trivial pc48 zr48 rfl) ?_
        refine TO.n0 (N.stA (vs := frV fr0) rfl rfl sz48 (by (repeat first | exact Put.head _ _ _ | apply Put.tail)) (by simp [frV, arV, fr0, ar0]) (by simp [frV, arV, fr0, ar0, str, Value.oneCell']) (by rfl)) ?_
        rintro _ _ ⟨rfl, rfl⟩
        rw [show setAll _ 0 (frV fr0) = frV fr0 from rfl]
        refine TO.p (DP.as (by conv => lhs; whnf)) ?_
        refine TO.nil ?_
        refine TQ.nn ?_
        refine T.ret ?_
        refine TQ.br ?_
        refine TQ.nr ?_
        rw [decE_type s hc0 hc1]
        refine TQ.ret (vs := [.agg (frV fr0).toArray, .int .i64 (170 : Nat)]) (L' := []) rfl ⟨RV.atA rfl ag48 sz48 (by (repeat first | exact LMem.head _ _ | apply LMem.tail)) rfl, rfl, rfl⟩ ⟨rfl, rfl⟩ (by (refine Ent.imp ?_; repeat first | exact Imp.refl _ | exact Imp.nil _ | (apply Imp.pull; focus ((repeat first | exact Del.head _ _ | apply Del.tail); done)) | (apply Imp.row; focus ((repeat first | exact Del.head _ _ | apply Del.tail); done)) | apply Imp.drop))
      · refine T.seq ?_
        refine T.reg ?_
        refine TO.p (DP.fa 3 rfl Tryd.underlying48 rfl rfl sz9) ?_
        refine TO.d (D.ldR (v := str (s.drop 14)) rfl pl9 (by (repeat first | exact LMem.head _ _ | apply LMem.tail)) rfl) ?_
        have hdl : (s.drop 14).length = s.length - 14 := List.length_drop
        refine TO.p (DP.lenT rfl Tryd.underlying9) ?_
        refine TO.p ((by first | exact DP.gtr (b := 1500) rfl rfl | exact DP.gtrI rfl rfl)) ?_
        refine TO.p (DP.as (by conv => lhs; whnf)) ?_
        refine TO.nil ?_
        refine TQ.nn ?_
        refine T.condD rfl (fun hc2 => ?_) (fun hc2 => ?_)
        · refine T.seq ?_
          refine T.reg ?_
          refine TO.p (DP.bdL (vs := []) (us := frV fr0) trivial pc48 zr48 rfl) ?_
          refine TO.n0 (N.stA (vs := frV fr0) rfl rfl sz48 (by (repeat first | exact Put.head _ _ _ | apply Put.tail)) (by simp [frV, arV, fr0, ar0]) (by simp [frV, arV, fr0, ar0, str, Value.oneCell']) (by rfl)) ?_
          rintro _ _ ⟨rfl, rfl⟩
          rw [show setAll _ 0 (frV fr0) = frV fr0 from rfl]
          refine TO.p (DP.as (by conv => lhs; whnf)) ?_
          refine TO.nil ?_
          refine TQ.nn ?_
          refine T.ret ?_
          refine TQ.br ?_
          refine TQ.nr ?_
          rw [decE_long s hc0 hc1 (by omega)]
          refine TQ.ret (vs := [.agg (frV fr0).toArray, .int .i64 (4 : Nat)]) (L' := []) rfl ⟨RV.atA rfl ag48 sz48 (by (repeat first | exact LMem.head _ _ | apply LMem.tail)) rfl, rfl, rfl⟩ ⟨rfl, rfl⟩ (by (refine Ent.imp ?_; repeat first | exact Imp.refl _ | exact Imp.nil _ | (apply Imp.pull; focus ((repeat first | exact Del.head _ _ | apply Del.tail); done)) | (apply Imp.row; focus ((repeat first | exact Del.head _ _ | apply Del.tail); done)) | apply Imp.drop))
        · refine T.skip ?_
          refine TQ.bn ?_
          refine TQ.nn ?_
          refine T.seq ?_
          refine T.reg ?_
          refine TO.d (D.ldRA (cs := frV (frOf s)) rfl ag48 sz48 (by (repeat first | exact LMem.head _ _ | apply LMem.tail)) rfl) ?_
          refine TO.n0 (N.stA (vs := frV (frOf s)) rfl rfl sz48 (by (repeat first | exact Put.head _ _ _ | apply Put.tail)) (by simp [frV, arV, fr0, ar0]) (by simp [frV, arV, fr0, ar0, str, Value.oneCell']) (by rfl)) ?_
          rintro _ _ ⟨rfl, rfl⟩
          rw [show setAll _ 0 (frV (frOf s)) = frV (frOf s) from rfl]
          refine TO.p (DP.as (by conv => lhs; whnf)) ?_
          refine TO.nil ?_
          refine TQ.nn ?_
          refine T.ret ?_
          rw [decE_ok s hc0 hc1 (by omega)]
          refine TQ.ret (vs := [.agg (frV (frOf s)).toArray, .int .i64 (0 : Nat)]) (L' := []) rfl ⟨RV.atA rfl ag48 sz48 (by (repeat first | exact LMem.head _ _ | apply LMem.tail)) rfl, rfl, rfl⟩ ⟨rfl, rfl⟩ (by (refine Ent.imp ?_; repeat first | exact Imp.refl _ | exact Imp.nil _ | (apply Imp.pull; focus ((repeat first | exact Del.head _ _ | apply Del.tail); done)) | (apply Imp.row; focus ((repeat first | exact Del.head _ _ | apply Del.tail); done)) | apply Imp.drop))
    · rintro _ _ ⟨b4, rfl, rfl⟩
      refine ⟨.inl rfl, ?_⟩
      refine TR.n 6 (by kernel_rfl) rfl (N.callF (value_spec ((s.take 14).drop 12) (by simp; omega)) Tryd.call44 ⟨rfl, trivial⟩ (by (repeat first | exact Pick.nil _ | (apply Pick.cons; focus ((repeat first | exact Del.head _ _ | apply Del.tail); done))))) ?_
      rintro u15 _ ⟨_, ⟨rfl, rfl⟩, rfl⟩
      try simp only [List.cons_append, List.nil_append]
      refine ⟨.inl rfl, ?_⟩
      refine TR.p 7 rfl (by kernel_rfl) (DP.to (v' := .int .u16 (tyE s : Nat)) (DP.cvW rfl is31 Tryd.underlying22 rfl (l := 65536) rfl) rfl) ?_
      refine TR.p 10 rfl (by kernel_rfl) (DP.bdL (vs := [(0, _), (1, _), (2, _), (3, _)]) (us := frV (frOf s)) ⟨rfl, rfl, rfl, rfl, rfl, rfl, rfl, rfl, trivial⟩ pc48 zr48 rfl) ?_
      refine TR.n0 12 (by kernel_rfl) rfl (N.stA (vs := frV (frOf s)) rfl rfl sz48 (by (repeat first | exact Put.head _ _ _ | apply Put.tail)) (by simp [frV, arV, fr0, ar0]) (by simp [frV, arV, fr0, ar0, str, Value.oneCell']) (by rfl)) ?_
      rintro _ _ ⟨rfl, rfl⟩
      rw [show setAll _ 0 (frV (frOf s)) = frV (frOf s) from rfl]
      refine ⟨.inl rfl, ?_⟩
      refine TR.done (by kernel_rfl) ?_
      refine TQ.nn ?_
      refine T.seq ?_
      refine T.block ?_
      refine T.seq ?_
      refine T.reg ?_
      refine TO.p (DP.fa 2 rfl Tryd.underlying48 rfl rfl sz22) ?_
      have hty : tyE s < 65536 := Nat.mod_lt _ (by decide)
      refine TO.d (D.ldR (v := .int .u16 (tyE s : Nat)) rfl pl22 (by (repeat first | exact LMem.head _ _ | apply LMem.tail)) rfl) ?_
      refine TO.p ((by first | exact DP.lss (b := 1536) rfl rfl | exact DP.lssI rfl rfl)) ?_
      refine TO.p (DP.as (by conv => lhs; whnf)) ?_
      refine TO.nil ?_
      refine TQ.nn ?_
      refine T.condD rfl (fun hc1 => ?_) (fun hc1 => ?_)
      · refine T.seq ?_
        refine T.reg ?_
        refine TO.p (DP.bdL (vs := []) (us := frV fr0) trivial pc48 zr48 rfl) ?_
        refine TO.n0 (N.stA (vs := frV fr0) rfl rfl sz48 (by (repeat first | exact Put.head _ _ _ | apply Put.tail)) (by simp [frV, arV, fr0, ar0]) (by simp [frV, arV, fr0, ar0, str, Value.oneCell']) (by rfl)) ?_
        rintro _ _ ⟨rfl, rfl⟩
        rw [show setAll _ 0 (frV fr0) = frV fr0 from rfl]
        refine TO.p (DP.as (by conv => lhs; whnf)) ?_
        refine TO.nil ?_
        refine TQ.nn ?_
        refine T.ret ?_
        refine TQ.br ?_
        refine TQ.nr ?_
        rw [decE_type s hc0 hc1]
        refine TQ.ret (vs := [.agg (frV fr0).toArray, .int .i64 (170 : Nat)]) (L' := []) rfl ⟨RV.atA rfl ag48 sz48 (by (repeat first | exact LMem.head _ _ | apply LMem.tail)) rfl, rfl, rfl⟩ ⟨rfl, rfl⟩ (by (refine Ent.imp ?_; repeat first | exact Imp.refl _ | exact Imp.nil _ | (apply Imp.pull; focus ((repeat first | exact Del.head _ _ | apply Del.tail); done)) | (apply Imp.row; focus ((repeat first | exact Del.head _ _ | apply Del.tail); done)) | apply Imp.drop))
      · refine T.seq ?_
        refine T.reg ?_
        refine TO.p (DP.fa 3 rfl Tryd.underlying48 rfl rfl sz9) ?_
        refine TO.d (D.ldR (v := str (s.drop 14)) rfl pl9 (by (repeat first | exact LMem.head _ _ | apply LMem.tail)) rfl) ?_
        have hdl : (s.drop 14).length = s.length - 14 := List.length_drop
        refine TO.p (DP.lenT rfl Tryd.underlying9) ?_
        refine TO.p ((by first | exact DP.gtr (b := 1500) rfl rfl | exact DP.gtrI rfl rfl)) ?_
        refine TO.p (DP.as (by conv => lhs; whnf)) ?_
        refine TO.nil ?_
        refine TQ.nn ?_
        refine T.condD rfl (fun hc2 => ?_) (fun hc2 => ?_)
        · refine T.seq ?_
          refine T.reg ?_
          refine TO.p (DP.bdL (vs := []) (us := frV fr0) trivial pc48 zr48 rfl) ?_
          refine TO.n0 (N.stA (vs := frV fr0) rfl rfl sz48 (by (repeat first | exact Put.head _ _ _ | apply Put.tail)) (by simp [frV, arV, fr0, ar0]) (by simp [frV, arV, fr0, ar0, str, Value.oneCell']) (by rfl)) ?_
          rintro _ _ ⟨rfl, rfl⟩
          rw [show setAll _ 0 (frV fr0) = frV fr0 from rfl]
          refine TO.p (DP.as (by conv => lhs; whnf)) ?_
          refine TO.nil ?_
          refine TQ.nn ?_
          refine T.ret ?_
          refine TQ.br ?_
          refine TQ.nr ?_
          rw [decE_long s hc0 hc1 (by omega)]
          refine TQ.ret (vs := [.agg (frV fr0).toArray, .int .i64 (4 : Nat)]) (L' := []) rfl ⟨RV.atA rfl ag48 sz48 (by (repeat first | exact LMem.head _ _ | apply LMem.tail)) rfl, rfl, rfl⟩ ⟨rfl, rfl⟩ (by (refine Ent.imp ?_; repeat first | exact Imp.refl _ | exact Imp.nil _ | (apply Imp.pull; focus ((repeat first | exact Del.head _ _ | apply Del.tail); done)) | (apply Imp.row; focus ((repeat first | exact Del.head _ _ | apply Del.tail); done)) | apply Imp.drop))
        · refine T.skip ?_
          refine TQ.bn ?_
          refine TQ.nn ?_
          refine T.seq ?_
          refine T.reg ?_
          refine TO.d (D.ldRA (cs := frV (frOf s)) rfl ag48 sz48 (by (repeat first | exact LMem.head _ _ | apply LMem.tail)) rfl) ?_
          refine TO.n0 (N.stA (vs := frV (frOf s)) rfl rfl sz48 (by (repeat first | exact Put.head _ _ _ | apply Put.tail)) (by simp [frV, arV, fr0, ar0]) (by simp [frV, arV, fr0, ar0, str, Value.oneCell']) (by rfl)) ?_
          rintro _ _ ⟨rfl, rfl⟩
          rw [show setAll _ 0 (frV (frOf s)) = frV (frOf s) from rfl]
          refine TO.p (DP.as (by conv => lhs; whnf)) ?_
          refine TO.nil ?_
          refine TQ.nn ?_
          refine T.ret ?_
          rw [decE_ok s hc0 hc1 (by omega)]
          refine TQ.ret (vs := [.agg (frV (frOf s)).toArray, .int .i64 (0 : Nat)]) (L' := []) rfl ⟨RV.atA rfl ag48 sz48 (by (repeat first | exact LMem.head _ _ | apply LMem.tail)) rfl, rfl, rfl⟩ ⟨rfl, rfl⟩ (by (refine Ent.imp ?_; repeat first | exact Imp.refl _ | exact Imp.nil _ | (apply Imp.pull; focus ((repeat first | exact Del.head _ _ | apply Del.tail); done)) | (apply Imp.row; focus ((repeat first | exact Del.head _ _ | apply Del.tail); done)) | apply Imp.drop))

theorem rdec_spec (s : List UInt8) (hs : s.length ≤ 1048576) :
    Sat Tryd.prog 21 [str s] [] (fun u L' => u = .tuple #[.agg (frV (decE s).1).toArray, .int .i64 ((decE s).2 : Nat)] ∧ L' = []) := by
  refine Sat.enter Tryd.func21 rfl Tryd.ntmps21 rfl (fun c R => ?_)
  try simp only [List.cons_append, List.nil_append]
  refine T.seq ?_
  refine T.reg ?_
  refine TO.n (N.alA zr48) ?_
  rintro _ _ ⟨b2, rfl, rfl⟩
  refine TO.p (DP.as (by conv => lhs; whnf)) ?_
  refine TO.nil ?_
  refine TQ.nn ?_
  refine T.seq ?_
  refine T.seq ?_
  refine T.reg ?_
  refine TO.p (DP.mv (by conv => lhs; whnf)) ?_
  refine TO.p (DP.lenT rfl Tryd.underlying9) ?_
  refine TO.p ((by first | exact DP.lss (b := 14) rfl rfl | exact DP.lssI rfl rfl)) ?_
  refine TO.nil ?_
  refine TQ.nn ?_
  refine T.condD rfl (fun hc0 => ?_) (fun hc0 => ?_)
  · refine T.seq ?_
    refine T.reg ?_
    refine TO.p (DP.bdL (vs := []) (us := frV fr0) trivial pc48 zr48 rfl) ?_
    refine TO.n0 (N.stA (vs := frV fr0) rfl rfl sz48 (by (repeat first | exact Put.head _ _ _ | apply Put.tail)) (by simp [frV, arV, fr0, ar0]) (by simp [frV, arV, fr0, ar0, str, Value.oneCell']) (by rfl)) ?_
    rintro _ _ ⟨rfl, rfl⟩
    rw [show setAll _ 0 (frV fr0) = frV fr0 from rfl]
    refine TO.p (DP.as (by conv => lhs; whnf)) ?_
    refine TO.nil ?_
    refine TQ.nn ?_
    refine T.ret ?_
    refine TQ.nr ?_
    rw [decE_short s hc0]
    refine TQ.ret (vs := [.agg (frV fr0).toArray, .int .i64 (7 : Nat)]) (L' := []) rfl ⟨RV.atA rfl ag48 sz48 (by (repeat first | exact LMem.head _ _ | apply LMem.tail)) rfl, rfl, rfl⟩ ⟨rfl, rfl⟩ (by (refine Ent.imp ?_; repeat first | exact Imp.refl _ | exact Imp.nil _ | (apply Imp.pull; focus ((repeat first | exact Del.head _ _ | apply Del.tail); done)) | (apply Imp.row; focus ((repeat first | exact Del.head _ _ | apply Del.tail); done)) | apply Imp.drop))
  · refine T.skip ?_
    refine TQ.nn ?_
    refine T.seq ?_
    refine T.reg ?_
    refine TO.p (DP.mv (by conv => lhs; whnf)) ?_
    refine TO.p (DP.slT (i := 12) (j := 14) rfl rfl rfl Tryd.underlying9 (by omega) (by omega)) ?_
    refine TO.n (N.callF (rvalue_spec ((s.take 14).drop 12) (by simp; omega)) Tryd.call45 ⟨rfl, trivial⟩ (by (repeat first | exact Pick.nil _ | (apply Pick.cons; focus ((repeat first | exact Del.head _ _ | apply Del.tail); done))))) ?_
    rintro u11 _ ⟨_, ⟨rfl, rfl⟩, rfl⟩
    try simp only [List.cons_append, List.nil_append]
    refine TO.p (DP.to (v' := .int .u16 (tyE s : Nat)) (DP.cvW rfl is31 Tryd.underlying22 rfl (l := 65536) rfl) rfl) ?_
    refine TO.p (DP.as (by conv => lhs; whnf)) ?_
    refine TO.nil ?_
    refine TQ.nn ?_
    refine T.seq ?_
    refine T.seq ?_
    refine T.reg ?_
    have hty : tyE s < 65536 := Nat.mod_lt _ (by decide)
    refine TO.p (DP.mv (by conv => lhs; whnf)) ?_
    refine TO.p ((by first | exact DP.lss (b := 1536) rfl rfl | exact DP.lssI rfl rfl)) ?_
    refine TO.nil ?_
    refine TQ.nn ?_
    refine T.condD rfl (fun hc1 => ?_) (fun hc1 => ?_)
    · refine T.seq ?_
      refine T.reg ?_
      refine TO.p (DP.bdL (vs := []) (us := frV fr0) trivial pc48 zr48 rfl) ?_
      refine TO.n0 (N.stA (vs := frV fr0) rfl rfl sz48 (by (repeat first | exact Put.head _ _ _ | apply Put.tail)) (by simp [frV, arV, fr0, ar0]) (by simp [frV, arV, fr0, ar0, str, Value.oneCell']) (by rfl)) ?_
      rintro _ _ ⟨rfl, rfl⟩
      rw [show setAll _ 0 (frV fr0) = frV fr0 from rfl]
      refine TO.p (DP.as (by conv => lhs; whnf)) ?_
      refine TO.nil ?_
      refine TQ.nn ?_
      refine T.ret ?_
      refine TQ.nr ?_
      rw [decE_type s hc0 hc1]
      refine TQ.ret (vs := [.agg (frV fr0).toArray, .int .i64 (170 : Nat)]) (L' := []) rfl ⟨RV.atA rfl ag48 sz48 (by (repeat first | exact LMem.head _ _ | apply LMem.tail)) rfl, rfl, rfl⟩ ⟨rfl, rfl⟩ (by (refine Ent.imp ?_; repeat first | exact Imp.refl _ | exact Imp.nil _ | (apply Imp.pull; focus ((repeat first | exact Del.head _ _ | apply Del.tail); done)) | (apply Imp.row; focus ((repeat first | exact Del.head _ _ | apply Del.tail); done)) | apply Imp.drop))
    · refine T.skip ?_
      refine TQ.nn ?_
      refine T.seq ?_
      refine T.seq ?_
      refine T.reg ?_
      refine TO.p (DP.mv (by conv => lhs; whnf)) ?_
      refine TO.p (DP.lenT rfl Tryd.underlying9) ?_
      refine TO.p ((by first | exact DP.sub (b := 14) rfl rfl (l := 9223372036854775808) rfl (by omega) (by omega) | exact DP.subI rfl rfl (by simp [IntKind.fits, IntKind.lim, IntKind.signed, IntKind.bits]; omega) | exact DP.subX rfl rfl)) ?_
      refine TO.p ((by first | exact DP.gtr (b := 1500) rfl rfl | exact DP.gtrI rfl rfl)) ?_
      refine TO.nil ?_
      refine TQ.nn ?_
      refine T.condD rfl (fun hc2 => ?_) (fun hc2 => ?_)
      · refine T.seq ?_
        refine T.reg ?_
        refine TO.p (DP.bdL (vs := []) (us := frV fr0) trivial pc48 zr48 rfl) ?_
        refine TO.n0 (N.stA (vs := frV fr0) rfl rfl sz48 (by (repeat first | exact Put.head _ _ _ | apply Put.tail)) (by simp [frV, arV, fr0, ar0]) (by simp [frV, arV, fr0, ar0, str, Value.oneCell']) (by rfl)) ?_
        rintro _ _ ⟨rfl, rfl⟩
        rw [show setAll _ 0 (frV fr0) = frV fr0 from rfl]
        refine TO.p (DP.as (by conv => lhs; whnf)) ?_
        refine TO.nil ?_
        refine TQ.nn ?_
        refine T.ret ?_
        refine TQ.nr ?_
        rw [decE_long s hc0 hc1 (by omega)]
        refine TQ.ret (vs := [.agg (frV fr0).toArray, .int .i64 (4 : Nat)]) (L' := []) rfl ⟨RV.atA rfl ag48 sz48 (by (repeat first | exact LMem.head _ _ | apply LMem.tail)) rfl, rfl, rfl⟩ ⟨rfl, rfl⟩ (by (refine Ent.imp ?_; repeat first | exact Imp.refl _ | exact Imp.nil _ | (apply Imp.pull; focus ((repeat first | exact Del.head _ _ | apply Del.tail); done)) | (apply Imp.row; focus ((repeat first | exact Del.head _ _ | apply Del.tail); done)) | apply Imp.drop))
      · refine T.skip ?_
        refine TQ.nn ?_
        refine T.seq ?_
        refine T.drawL [8] mixed (by repeat first | exact Calm.rt | apply Calm.t | apply Calm.b | apply Calm.l | apply Calm.ct) ?_
        refine TR.p 0 rfl (by kernel_rfl) (DP.mv (by conv => lhs; whnf)) ?_
        refine TR.p 1 rfl (by kernel_rfl) (DP.slTh (j := 6) rfl rfl Tryd.underlying9 (by omega)) ?_
        refine TR.p 2 rfl (by kernel_rfl) (DP.mv (by conv => lhs; whnf)) ?_
        refine TR.p 3 rfl (by kernel_rfl) (DP.slT (i := 6) (j := 12) rfl rfl rfl Tryd.underlying9 (by omega) (by omega)) ?_
        refine TR.p 4 rfl (by kernel_rfl) (DP.mv (by conv => lhs; whnf)) ?_
        refine TR.p 5 rfl (by kernel_rfl) (DP.mv (by conv => lhs; whnf)) ?_
        refine TR.p 6 rfl (by kernel_rfl) (DP.slTl (i := 14) rfl rfl Tryd.underlying9 (by omega)) ?_
        refine TR.p 7 rfl (by kernel_rfl) (DP.bdL (vs := [(0, _), (1, _), (2, _), (3, _)]) (us := frV (frOf s)) ⟨rfl, rfl, rfl, rfl, rfl, rfl, rfl, rfl, trivial⟩ pc48 zr48 rfl) ?_
        refine TR.n0 8 (by kernel_rfl) rfl (N.stA (vs := frV (frOf s)) rfl rfl sz48 (by (repeat first | exact Put.head _ _ _ | apply Put.tail)) (by simp [frV, arV, fr0, ar0]) (by simp [frV, arV, fr0, ar0, str, Value.oneCell']) (by rfl)) ?_
        rintro _ _ ⟨rfl, rfl⟩
        rw [show setAll _ 0 (frV (frOf s)) = frV (frOf s) from rfl]
        refine ⟨.inl rfl, ?_⟩
        refine TR.p 9 rfl (by kernel_rfl) (DP.as (by conv => lhs; whnf)) ?_
        refine TR.done (by kernel_rfl) ?_
        refine TQ.nn ?_
        refine T.ret ?_
        rw [decE_ok s hc0 hc1 (by omega)]
        refine TQ.ret (vs := [.agg (frV (frOf s)).toArray, .int .i64 (0 : Nat)]) (L' := []) rfl ⟨RV.atA rfl ag48 sz48 (by (repeat first | exact LMem.head _ _ | apply LMem.tail)) rfl, rfl, rfl⟩ ⟨rfl, rfl⟩ (by (refine Ent.imp ?_; repeat first | exact Imp.refl _ | exact Imp.nil _ | (apply Imp.pull; focus ((repeat first | exact Del.head _ _ | apply Del.tail); done)) | (apply Imp.row; focus ((repeat first | exact Del.head _ _ | apply Del.tail); done)) | apply Imp.drop))
end Go.Proofs.YtbandaebilkkkaaDoor
