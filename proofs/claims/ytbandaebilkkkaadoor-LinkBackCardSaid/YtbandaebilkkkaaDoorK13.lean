/- Lemmas for the proofs of this seat: no statement of the seat is claimed here. -/
import Derived.Test.YtbandaebilkkkaaDoorK12
set_option linter.all false
namespace Go.Proofs.YtbandaebilkkkaaDoor
open Go Pw
set_option maxRecDepth 20000
set_option maxHeartbeats 4000000

theorem rtake_spec (q : Tb) (l : List Nr) (v : Value) (p : Nat) (hlen : l.length ≤ 1048576) (a : Ar) (now : Nat) (hq : q.ok) (hs : Srt l) (ha : a.ok) :
    Sat Tryd.prog 28 [.pointer (some ⟨p, 0, none⟩), .agg (arV a).toArray, .int .u64 now] [row 80 p (tabV q v), sl 40 3 v (l).length ((l).flatMap nearV)] (fun u L' => u = .tuple #[.agg (arV (takeE q l a now).2.1).toArray, .bool (takeE q l a now).2.2.1, .int .i64 ((takeE q l a now).2.2.2 : Nat)] ∧ ∃ v2, L' = [row 80 p (tabV q v2), sl 40 3 v2 ((takeE q l a now).1).length (((takeE q l a now).1).flatMap nearV)]) := by
  refine Sat.enter Tryd.func28 rfl Tryd.ntmps28 rfl (fun c R => ?_)
  try simp only [List.cons_append, List.nil_append]
  refine T.seq ?_
  refine T.reg ?_
  refine TO.n (N.bxA (cs := arV a) rfl) ?_
  rintro _ _ ⟨b4, rfl, rfl⟩
  obtain ⟨hop, haf, hfa, hat, hta⟩ := ha
  refine TO.n (N.alA zr34) ?_
  rintro _ _ ⟨b6, rfl, rfl⟩
  refine TO.p (DP.as (by conv => lhs; whnf)) ?_
  refine TO.p (DP.as (by conv => lhs; whnf)) ?_
  refine TO.nil ?_
  refine TQ.nn ?_
  refine T.seq ?_
  refine T.seq ?_
  refine T.drawL [] mixed (by repeat first | exact Calm.rt | apply Calm.t | apply Calm.b | apply Calm.l | apply Calm.ct) ?_
  refine TR.d 0 rfl (by kernel_rfl) (by kernel_rfl) (by (refine Ent.imp ?_; repeat first | exact Imp.refl _ | exact Imp.nil _ | (apply Imp.pull; focus ((repeat first | exact Del.head _ _ | apply Del.tail); done)) | (apply Imp.row; focus ((repeat first | exact Del.head _ _ | apply Del.tail); done)) | apply Imp.drop)) (D.ldRA (cs := arV a) rfl ag34 sz34 (by (repeat first | exact LMem.head _ _ | apply LMem.tail)) rfl) ?_
  refine TR.n 1 (by kernel_rfl) rfl (N.callF (rmay_spec a) Tryd.call43 ⟨rfl, trivial⟩ (by (repeat first | exact Pick.nil _ | (apply Pick.cons; focus ((repeat first | exact Del.head _ _ | apply Del.tail); done))))) ?_
  rintro u10 _ ⟨_, ⟨rfl, rfl⟩, rfl⟩
  try simp only [List.cons_append, List.nil_append]
  refine ⟨.inr (by (refine Ent.imp ?_; repeat first | exact Imp.refl _ | exact Imp.nil _ | (apply Imp.pull; focus ((repeat first | exact Del.head _ _ | apply Del.tail); done)) | (apply Imp.row; focus ((repeat first | exact Del.head _ _ | apply Del.tail); done)) | apply Imp.drop)), ?_⟩
  refine TR.p 2 rfl (by kernel_rfl) (DP.not rfl) ?_
  refine TR.pb 3 rfl (by kernel_rfl) (DP.mv (by conv => lhs; whnf)) (fun hg12 => ?_) (fun hg12 => ?_)
  · refine TR.off 4 rfl (by kernel_rfl) rfl rfl ?_
    refine TR.off 5 rfl (by kernel_rfl) rfl rfl ?_
    refine TR.p 6 rfl (by kernel_rfl) (DP.pkT rfl (by conv => lhs; whnf)) ?_
    refine TR.p 7 rfl (by kernel_rfl) (DP.mv (by conv => lhs; whnf)) ?_
    refine TR.off 8 rfl (by kernel_rfl) rfl rfl ?_
    refine TR.off 9 rfl (by kernel_rfl) rfl rfl ?_
    refine TR.off 10 rfl (by kernel_rfl) rfl rfl ?_
    refine TR.off 11 rfl (by kernel_rfl) rfl rfl ?_
    refine TR.p 12 rfl (by kernel_rfl) (DP.pkT rfl (by conv => lhs; whnf)) ?_
    refine TR.p 13 rfl (by kernel_rfl) (DP.mv (by conv => lhs; whnf)) ?_
    refine TR.off 14 rfl (by kernel_rfl) rfl rfl ?_
    refine TR.off 15 rfl (by kernel_rfl) rfl rfl ?_
    refine TR.off 16 rfl (by kernel_rfl) rfl rfl ?_
    refine TR.off 17 rfl (by kernel_rfl) rfl rfl ?_
    refine TR.p 18 rfl (by kernel_rfl) (DP.pkT rfl (by conv => lhs; whnf)) ?_
    refine TR.p 19 rfl (by kernel_rfl) (DP.mv (by conv => lhs; whnf)) ?_
    refine TR.off 20 rfl (by kernel_rfl) rfl rfl ?_
    refine TR.off 21 rfl (by kernel_rfl) rfl rfl ?_
    refine TR.off 22 rfl (by kernel_rfl) rfl rfl ?_
    refine TR.off 23 rfl (by kernel_rfl) rfl rfl ?_
    refine TR.off 24 rfl (by kernel_rfl) rfl rfl ?_
    refine TR.off 25 rfl (by kernel_rfl) rfl rfl ?_
    refine TR.off 26 rfl (by kernel_rfl) rfl rfl ?_
    refine TR.p 27 rfl (by kernel_rfl) (DP.pkT rfl (by conv => lhs; whnf)) ?_
    refine TR.done (by kernel_rfl) ?_
    refine TQ.nn ?_
    refine T.condT rfl ?_
    refine T.seq ?_
    refine T.reg ?_
    refine TO.p (DP.bdL (vs := []) (us := arV ar0) trivial pc34 zr34 rfl) ?_
    refine TO.n0 (N.stA (vs := arV ar0) rfl rfl sz34 (by (repeat first | exact Put.head _ _ _ | apply Put.tail)) (by simp [frV, arV, fr0, ar0]) (by simp [frV, arV, fr0, ar0, str, Value.oneCell']) (by rfl)) ?_
    rintro _ _ ⟨rfl, rfl⟩
    rw [show setAll _ 0 (arV ar0) = arV ar0 from rfl]
    refine TO.p (DP.as (by conv => lhs; whnf)) ?_
    refine TO.p (DP.as (by conv => lhs; whnf)) ?_
    refine TO.nil ?_
    refine TQ.nn ?_
    refine T.ret ?_
    refine TQ.nr ?_
    rw [take_bad (.inl (by simpa using hg12))]
    refine TQ.ret (vs := [.agg (arV ar0).toArray, .bool false, .int .i64 (2 : Nat)]) (L' := [row 80 p (tabV q v), sl 40 3 v (l).length ((l).flatMap nearV)]) rfl ⟨RV.atA rfl ag34 sz34 (by (repeat first | exact LMem.head _ _ | apply LMem.tail)) rfl, rfl, rfl, rfl⟩ ⟨rfl, _, rfl⟩ (by (refine Ent.imp ?_; repeat first | exact Imp.refl _ | exact Imp.nil _ | (apply Imp.pull; focus ((repeat first | exact Del.head _ _ | apply Del.tail); done)) | (apply Imp.row; focus ((repeat first | exact Del.head _ _ | apply Del.tail); done)) | apply Imp.drop))
  · refine TR.pon 4 rfl (by kernel_rfl) rfl (DP.mv (by conv => lhs; whnf)) ?_
    refine TR.pon 5 rfl (by kernel_rfl) rfl ((by first | exact DP.geq (b := 4611686018427387904) rfl rfl | exact DP.geqI rfl rfl)) ?_
    refine TR.p 6 rfl (by kernel_rfl) (DP.pkF rfl (by conv => lhs; whnf)) ?_
    refine TR.pB 7 rfl (by kernel_rfl) (DP.mv (by conv => lhs; whnf)) (fun hg16 => ?_) (fun hg16 => ?_)
    · refine TR.off 8 rfl (by kernel_rfl) rfl rfl ?_
      refine TR.off 9 rfl (by kernel_rfl) rfl rfl ?_
      refine TR.off 10 rfl (by kernel_rfl) rfl rfl ?_
      refine TR.off 11 rfl (by kernel_rfl) rfl rfl ?_
      refine TR.p 12 rfl (by kernel_rfl) (DP.pkT rfl (by conv => lhs; whnf)) ?_
      refine TR.p 13 rfl (by kernel_rfl) (DP.mv (by conv => lhs; whnf)) ?_
      refine TR.off 14 rfl (by kernel_rfl) rfl rfl ?_
      refine TR.off 15 rfl (by kernel_rfl) rfl rfl ?_
      refine TR.off 16 rfl (by kernel_rfl) rfl rfl ?_
      refine TR.off 17 rfl (by kernel_rfl) rfl rfl ?_
      refine TR.p 18 rfl (by kernel_rfl) (DP.pkT rfl (by conv => lhs; whnf)) ?_
      refine TR.p 19 rfl (by kernel_rfl) (DP.mv (by conv => lhs; whnf)) ?_
      refine TR.off 20 rfl (by kernel_rfl) rfl rfl ?_
      refine TR.off 21 rfl (by kernel_rfl) rfl rfl ?_
      refine TR.off 22 rfl (by kernel_rfl) rfl rfl ?_
      refine TR.off 23 rfl (by kernel_rfl) rfl rfl ?_
      refine TR.off 24 rfl (by kernel_rfl) rfl rfl ?_
      refine TR.off 25 rfl (by kernel_rfl) rfl rfl ?_
      refine TR.off 26 rfl (by kernel_rfl) rfl rfl ?_
      refine TR.p 27 rfl (by kernel_rfl) (DP.pkT rfl (by conv => lhs; whnf)) ?_
      refine TR.done (by kernel_rfl) ?_
      refine TQ.nn ?_
      refine T.condT rfl ?_
      refine T.seq ?_
      refine T.reg ?_
      refine TO.p (DP.bdL (vs := []) (us := arV ar0) trivial pc34 zr34 rfl) ?_
      refine TO.n0 (N.stA (vs := arV ar0) rfl rfl sz34 (by (repeat first | exact Put.head _ _ _ | apply Put.tail)) (by simp [frV, arV, fr0, ar0]) (by simp [frV, arV, fr0, ar0, str, Value.oneCell']) (by rfl)) ?_
      rintro _ _ ⟨rfl, rfl⟩
      rw [show setAll _ 0 (arV ar0) = arV ar0 from rfl]
      refine TO.p (DP.as (by conv => lhs; whnf)) ?_
      refine TO.p (DP.as (by conv => lhs; whnf)) ?_
      refine TO.nil ?_
      refine TQ.nn ?_
      refine T.ret ?_
      refine TQ.nr ?_
      rw [take_bad (.inr (.inl hg16))]
      refine TQ.ret (vs := [.agg (arV ar0).toArray, .bool false, .int .i64 (2 : Nat)]) (L' := [row 80 p (tabV q v), sl 40 3 v (l).length ((l).flatMap nearV)]) rfl ⟨RV.atA rfl ag34 sz34 (by (repeat first | exact LMem.head _ _ | apply LMem.tail)) rfl, rfl, rfl, rfl⟩ ⟨rfl, _, rfl⟩ (by (refine Ent.imp ?_; repeat first | exact Imp.refl _ | exact Imp.nil _ | (apply Imp.pull; focus ((repeat first | exact Del.head _ _ | apply Del.tail); done)) | (apply Imp.row; focus ((repeat first | exact Del.head _ _ | apply Del.tail); done)) | apply Imp.drop))
    · refine TR.pon 8 rfl (by kernel_rfl) rfl (DP.fa 1 rfl Tryd.underlying34 rfl rfl sz9) ?_
      refine TR.don 9 rfl (by kernel_rfl) (by kernel_rfl) (by (refine Ent.imp ?_; repeat first | exact Imp.refl _ | exact Imp.nil _ | (apply Imp.pull; focus ((repeat first | exact Del.head _ _ | apply Del.tail); done)) | (apply Imp.row; focus ((repeat first | exact Del.head _ _ | apply Del.tail); done)) | apply Imp.drop)) rfl (D.ldR (v := str a.f) rfl pl9 (by (repeat first | exact LMem.head _ _ | apply LMem.tail)) rfl) ?_
      refine TR.non 10 (by kernel_rfl) rfl rfl (N.callF (ralone_spec a.f haf) Tryd.call15 ⟨rfl, trivial⟩ (by (repeat first | exact Pick.nil _ | (apply Pick.cons; focus ((repeat first | exact Del.head _ _ | apply Del.tail); done))))) ?_
      rintro u19 _ ⟨_, ⟨rfl, rfl⟩, rfl⟩
      try simp only [List.cons_append, List.nil_append]
      refine ⟨.inr (by (refine Ent.imp ?_; repeat first | exact Imp.refl _ | exact Imp.nil _ | (apply Imp.pull; focus ((repeat first | exact Del.head _ _ | apply Del.tail); done)) | (apply Imp.row; focus ((repeat first | exact Del.head _ _ | apply Del.tail); done)) | apply Imp.drop)), ?_⟩
      refine TR.pon 11 rfl (by kernel_rfl) rfl (DP.not rfl) ?_
      refine TR.p 12 rfl (by kernel_rfl) (DP.pkF rfl (by conv => lhs; whnf)) ?_
      refine TR.pb 13 rfl (by kernel_rfl) (DP.mv (by conv => lhs; whnf)) (fun hg22 => ?_) (fun hg22 => ?_)
      · refine TR.off 14 rfl (by kernel_rfl) rfl rfl ?_
        refine TR.off 15 rfl (by kernel_rfl) rfl rfl ?_
        refine TR.off 16 rfl (by kernel_rfl) rfl rfl ?_
        refine TR.off 17 rfl (by kernel_rfl) rfl rfl ?_
        refine TR.p 18 rfl (by kernel_rfl) (DP.pkT rfl (by conv => lhs; whnf)) ?_
        refine TR.p 19 rfl (by kernel_rfl) (DP.mv (by conv => lhs; whnf)) ?_
        refine TR.off 20 rfl (by kernel_rfl) rfl rfl ?_
        refine TR.off 21 rfl (by kernel_rfl) rfl rfl ?_
        refine TR.off 22 rfl (by kernel_rfl) rfl rfl ?_
        refine TR.off 23 rfl (by kernel_rfl) rfl rfl ?_
        refine TR.off 24 rfl (by kernel_rfl) rfl rfl ?_
        refine TR.off 25 rfl (by kernel_rfl) rfl rfl ?_
        refine TR.off 26 rfl (by kernel_rfl) rfl rfl ?_
        refine TR.p 27 rfl (by kernel_rfl) (DP.pkT rfl (by conv => lhs; whnf)) ?_
        refine TR.done (by kernel_rfl) ?_
        refine TQ.nn ?_
        refine T.condT rfl ?_
        refine T.seq ?_
        refine T.reg ?_
        refine TO.p (DP.bdL (vs := []) (us := arV ar0) trivial pc34 zr34 rfl) ?_
        refine TO.n0 (N.stA (vs := arV ar0) rfl rfl sz34 (by (repeat first | exact Put.head _ _ _ | apply Put.tail)) (by simp [frV, arV, fr0, ar0]) (by simp [frV, arV, fr0, ar0, str, Value.oneCell']) (by rfl)) ?_
        rintro _ _ ⟨rfl, rfl⟩
        rw [show setAll _ 0 (arV ar0) = arV ar0 from rfl]
        refine TO.p (DP.as (by conv => lhs; whnf)) ?_
        refine TO.p (DP.as (by conv => lhs; whnf)) ?_
        refine TO.nil ?_
        refine TQ.nn ?_
        refine T.ret ?_
        refine TQ.nr ?_
        rw [take_bad (.inr (.inr (.inl (by simpa using hg22))))]
        refine TQ.ret (vs := [.agg (arV ar0).toArray, .bool false, .int .i64 (2 : Nat)]) (L' := [row 80 p (tabV q v), sl 40 3 v (l).length ((l).flatMap nearV)]) rfl ⟨RV.atA rfl ag34 sz34 (by (repeat first | exact LMem.head _ _ | apply LMem.tail)) rfl, rfl, rfl, rfl⟩ ⟨rfl, _, rfl⟩ (by (refine Ent.imp ?_; repeat first | exact Imp.refl _ | exact Imp.nil _ | (apply Imp.pull; focus ((repeat first | exact Del.head _ _ | apply Del.tail); done)) | (apply Imp.row; focus ((repeat first | exact Del.head _ _ | apply Del.tail); done)) | apply Imp.drop))
      · refine TR.pon 14 rfl (by kernel_rfl) rfl (DP.fa 2 rfl Tryd.underlying34 rfl rfl sz26) ?_
        refine TR.don 15 rfl (by kernel_rfl) (by kernel_rfl) (by (refine Ent.imp ?_; repeat first | exact Imp.refl _ | exact Imp.nil _ | (apply Imp.pull; focus ((repeat first | exact Del.head _ _ | apply Del.tail); done)) | (apply Imp.row; focus ((repeat first | exact Del.head _ _ | apply Del.tail); done)) | apply Imp.drop)) rfl (D.ldR (v := .int .u32 a.fa) rfl pl26 (by (repeat first | exact LMem.head _ _ | apply LMem.tail)) rfl) ?_
        refine TR.non 16 (by kernel_rfl) rfl rfl (N.callF (raloneA_spec a.fa hfa) Tryd.call26 ⟨rfl, trivial⟩ (by (repeat first | exact Pick.nil _ | (apply Pick.cons; focus ((repeat first | exact Del.head _ _ | apply Del.tail); done))))) ?_
        rintro u25 _ ⟨_, ⟨rfl, rfl⟩, rfl⟩
        try simp only [List.cons_append, List.nil_append]
        refine ⟨.inr (by (refine Ent.imp ?_; repeat first | exact Imp.refl _ | exact Imp.nil _ | (apply Imp.pull; focus ((repeat first | exact Del.head _ _ | apply Del.tail); done)) | (apply Imp.row; focus ((repeat first | exact Del.head _ _ | apply Del.tail); done)) | apply Imp.drop)), ?_⟩
        refine TR.pon 17 rfl (by kernel_rfl) rfl (DP.not rfl) ?_
        refine TR.p 18 rfl (by kernel_rfl) (DP.pkF rfl (by conv => lhs; whnf)) ?_
        refine TR.pb 19 rfl (by kernel_rfl) (DP.mv (by conv => lhs; whnf)) (fun hg28 => ?_) (fun hg28 => ?_)
        · refine TR.off 20 rfl (by kernel_rfl) rfl rfl ?_
          refine TR.off 21 rfl (by kernel_rfl) rfl rfl ?_
          refine TR.off 22 rfl (by kernel_rfl) rfl rfl ?_
          refine TR.off 23 rfl (by kernel_rfl) rfl rfl ?_
          refine TR.off 24 rfl (by kernel_rfl) rfl rfl ?_
          refine TR.off 25 rfl (by kernel_rfl) rfl rfl ?_
          refine TR.off 26 rfl (by kernel_rfl) rfl rfl ?_
          refine TR.p 27 rfl (by kernel_rfl) (DP.pkT rfl (by conv => lhs; whnf)) ?_
          refine TR.done (by kernel_rfl) ?_
          refine TQ.nn ?_
          refine T.condT rfl ?_
          refine T.seq ?_
          refine T.reg ?_
          refine TO.p (DP.bdL (vs := []) (us := arV ar0) trivial pc34 zr34 rfl) ?_
          refine TO.n0 (N.stA (vs := arV ar0) rfl rfl sz34 (by (repeat first | exact Put.head _ _ _ | apply Put.tail)) (by simp [frV, arV, fr0, ar0]) (by simp [frV, arV, fr0, ar0, str, Value.oneCell']) (by rfl)) ?_
          rintro _ _ ⟨rfl, rfl⟩
          rw [show setAll _ 0 (arV ar0) = arV ar0 from rfl]
          refine TO.p (DP.as (by conv => lhs; whnf)) ?_
          refine TO.p (DP.as (by conv => lhs; whnf)) ?_
          refine TO.nil ?_
          refine TQ.nn ?_
          refine T.ret ?_
          refine TQ.nr ?_
          rw [take_bad (.inr (.inr (.inr (.inl (by simpa using hg28)))))]
          refine TQ.ret (vs := [.agg (arV ar0).toArray, .bool false, .int .i64 (2 : Nat)]) (L' := [row 80 p (tabV q v), sl 40 3 v (l).length ((l).flatMap nearV)]) rfl ⟨RV.atA rfl ag34 sz34 (by (repeat first | exact LMem.head _ _ | apply LMem.tail)) rfl, rfl, rfl, rfl⟩ ⟨rfl, _, rfl⟩ (by (refine Ent.imp ?_; repeat first | exact Imp.refl _ | exact Imp.nil _ | (apply Imp.pull; focus ((repeat first | exact Del.head _ _ | apply Del.tail); done)) | (apply Imp.row; focus ((repeat first | exact Del.head _ _ | apply Del.tail); done)) | apply Imp.drop))
        · refine TR.pon 20 rfl (by kernel_rfl) rfl (DP.fa 2 rfl Tryd.underlying34 rfl rfl sz26) ?_
          refine TR.don 21 rfl (by kernel_rfl) (by kernel_rfl) (by (refine Ent.imp ?_; repeat first | exact Imp.refl _ | exact Imp.nil _ | (apply Imp.pull; focus ((repeat first | exact Del.head _ _ | apply Del.tail); done)) | (apply Imp.row; focus ((repeat first | exact Del.head _ _ | apply Del.tail); done)) | apply Imp.drop)) rfl (D.ldR (v := .int .u32 a.fa) rfl pl26 (by (repeat first | exact LMem.head _ _ | apply LMem.tail)) rfl) ?_
          refine TR.pon 22 rfl (by kernel_rfl) rfl (DP.mv (by conv => lhs; whnf)) ?_
          refine TR.pon 23 rfl (by kernel_rfl) rfl (DP.nck rfl) ?_
          refine TR.pon 24 rfl (by kernel_rfl) rfl (DP.fa 1 rfl Tryd.underlying80 rfl rfl sz26) ?_
          refine TR.don 25 rfl (by kernel_rfl) (by kernel_rfl) (by (refine Ent.imp ?_; repeat first | exact Imp.refl _ | exact Imp.nil _ | (apply Imp.pull; focus ((repeat first | exact Del.head _ _ | apply Del.tail); done)) | (apply Imp.row; focus ((repeat first | exact Del.head _ _ | apply Del.tail); done)) | apply Imp.drop)) rfl (D.ldR (v := .int .u32 q.addr) rfl pl26 (by (repeat first | exact LMem.head _ _ | apply LMem.tail)) rfl) ?_
          refine TR.pon 26 rfl (by kernel_rfl) rfl ((by first | exact DP.eql rfl rfl | exact DP.eqlI rfl rfl)) ?_
          refine TR.p 27 rfl (by kernel_rfl) (DP.pkF rfl (by conv => lhs; whnf)) ?_
          refine TR.done (by kernel_rfl) ?_
          refine TQ.nn ?_
          refine T.condD rfl (fun hc0 => ?_) (fun hc0 => ?_)
          · refine T.seq ?_
            refine T.reg ?_
            refine TO.p (DP.bdL (vs := []) (us := arV ar0) trivial pc34 zr34 rfl) ?_
            refine TO.n0 (N.stA (vs := arV ar0) rfl rfl sz34 (by (repeat first | exact Put.head _ _ _ | apply Put.tail)) (by simp [frV, arV, fr0, ar0]) (by simp [frV, arV, fr0, ar0, str, Value.oneCell']) (by rfl)) ?_
            rintro _ _ ⟨rfl, rfl⟩
            rw [show setAll _ 0 (arV ar0) = arV ar0 from rfl]
            refine TO.p (DP.as (by conv => lhs; whnf)) ?_
            refine TO.p (DP.as (by conv => lhs; whnf)) ?_
            refine TO.nil ?_
            refine TQ.nn ?_
            refine T.ret ?_
            refine TQ.nr ?_
            rw [take_bad (.inr (.inr (.inr (.inr hc0))))]
            refine TQ.ret (vs := [.agg (arV ar0).toArray, .bool false, .int .i64 (2 : Nat)]) (L' := [row 80 p (tabV q v), sl 40 3 v (l).length ((l).flatMap nearV)]) rfl ⟨RV.atA rfl ag34 sz34 (by (repeat first | exact LMem.head _ _ | apply LMem.tail)) rfl, rfl, rfl, rfl⟩ ⟨rfl, _, rfl⟩ (by (refine Ent.imp ?_; repeat first | exact Imp.refl _ | exact Imp.nil _ | (apply Imp.pull; focus ((repeat first | exact Del.head _ _ | apply Del.tail); done)) | (apply Imp.row; focus ((repeat first | exact Del.head _ _ | apply Del.tail); done)) | apply Imp.drop))
          · have hnb : ¬ (mayE a = false ∨ 4611686018427387904 ≤ now ∨ aloneE a.f = false ∨ aloneA a.fa = false ∨ a.fa = q.addr) := by
              rintro (h | h | h | h | h)
              · rw [h] at hg12; cases hg12
              · exact hg16 h
              · rw [h] at hg22; cases hg22
              · rw [h] at hg28; cases hg28
              · exact hc0 h
            have htl := tidy_len l now
            refine T.skip ?_
            refine TQ.nn ?_
            refine T.seq ?_
            refine T.reg ?_
            refine TO.p (DP.mv (by conv => lhs; whnf)) ?_
            refine TO.p (DP.mv (by conv => lhs; whnf)) ?_
            refine TO.n (N.callF (rtidy_spec q l v p hlen now) Tryd.call47 ⟨rfl, rfl, trivial⟩ (by (repeat first | exact Pick.nil _ | (apply Pick.cons; focus ((repeat first | exact Del.head _ _ | apply Del.tail); done))))) ?_
            rintro u40 _ ⟨_, ⟨rfl, v2, rfl⟩, rfl⟩
            try simp only [List.cons_append, List.nil_append]
            refine TO.nil ?_
            refine TQ.nn ?_
            refine T.seq ?_
            refine T.seq ?_
            refine T.drawL [11] mixed (by repeat first | exact Calm.rt | apply Calm.t | apply Calm.b | apply Calm.l | apply Calm.ct) ?_
            refine TR.p 0 rfl (by kernel_rfl) (DP.fa 4 rfl Tryd.underlying34 rfl rfl sz26) ?_
            refine TR.d 1 rfl (by kernel_rfl) (by kernel_rfl) (by (refine Ent.imp ?_; repeat first | exact Imp.refl _ | exact Imp.nil _ | (apply Imp.pull; focus ((repeat first | exact Del.head _ _ | apply Del.tail); done)) | (apply Imp.row; focus ((repeat first | exact Del.head _ _ | apply Del.tail); done)) | apply Imp.drop)) (D.ldR (v := .int .u32 a.ta) rfl pl26 (by (repeat first | exact LMem.head _ _ | apply LMem.tail)) rfl) ?_
            refine TR.p 2 rfl (by kernel_rfl) (DP.mv (by conv => lhs; whnf)) ?_
            refine TR.p 3 rfl (by kernel_rfl) (DP.nck rfl) ?_
            refine TR.p 4 rfl (by kernel_rfl) (DP.fa 1 rfl Tryd.underlying80 rfl rfl sz26) ?_
            refine TR.d 5 rfl (by kernel_rfl) (by kernel_rfl) (by (refine Ent.imp ?_; repeat first | exact Imp.refl _ | exact Imp.nil _ | (apply Imp.pull; focus ((repeat first | exact Del.head _ _ | apply Del.tail); done)) | (apply Imp.row; focus ((repeat first | exact Del.head _ _ | apply Del.tail); done)) | apply Imp.drop)) (D.ldR (v := .int .u32 q.addr) rfl pl26 (by (repeat first | exact LMem.head _ _ | apply LMem.tail)) rfl) ?_
            refine TR.p 6 rfl (by kernel_rfl) ((by first | exact DP.eql rfl rfl | exact DP.eqlI rfl rfl)) ?_
            refine TR.pB 7 rfl (by kernel_rfl) (DP.mv (by conv => lhs; whnf)) (fun hg48 => ?_) (fun hg48 => ?_)
            · refine TR.off 8 rfl (by kernel_rfl) rfl rfl ?_
              refine TR.off 9 rfl (by kernel_rfl) rfl rfl ?_
              refine TR.off 10 rfl (by kernel_rfl) rfl rfl ?_
              refine TR.off 11 rfl (by kernel_rfl) rfl rfl ?_
              refine TR.off 12 rfl (by kernel_rfl) rfl rfl ?_
              refine TR.p 13 rfl (by kernel_rfl) (DP.pkT rfl (by conv => lhs; whnf)) ?_
              refine TR.done (by kernel_rfl) ?_
              refine TQ.nn ?_
              refine T.condT rfl ?_
              refine T.reg ?_
              refine TO.p (DP.mv (by conv => lhs; whnf)) ?_
              refine TO.p (DP.fa 2 rfl Tryd.underlying34 rfl rfl sz26) ?_
              refine TO.d (D.ldR (v := .int .u32 a.fa) rfl pl26 (by (repeat first | exact LMem.head _ _ | apply LMem.tail)) rfl) ?_
              refine TO.p (DP.fa 1 rfl Tryd.underlying34 rfl rfl sz9) ?_
              refine TO.d (D.ldR (v := str a.f) rfl pl9 (by (repeat first | exact LMem.head _ _ | apply LMem.tail)) rfl) ?_
              refine TO.p (DP.mv (by conv => lhs; whnf)) ?_
              refine TO.n (N.callF (rlearn_spec q (tidyE now l) v2 p (by omega) a.fa a.f now hq (tidy_srt hs) hfa haf) Tryd.call29 ⟨rfl, rfl, rfl, rfl, trivial⟩ (by (repeat first | exact Pick.nil _ | (apply Pick.cons; focus ((repeat first | exact Del.head _ _ | apply Del.tail); done))))) ?_
              rintro u61 _ ⟨_, ⟨rfl, v3, rfl⟩, rfl⟩
              try simp only [List.cons_append, List.nil_append]
              refine TO.nil ?_
              refine TQ.nn ?_
              refine T.seq ?_
              refine T.seq ?_
              refine T.drawL [] mixed (by repeat first | exact Calm.rt | apply Calm.t | apply Calm.b | apply Calm.l | apply Calm.ct) ?_
              refine TR.p 0 rfl (by kernel_rfl) (DP.fa 4 rfl Tryd.underlying34 rfl rfl sz26) ?_
              refine TR.d 1 rfl (by kernel_rfl) (by kernel_rfl) (by (refine Ent.imp ?_; repeat first | exact Imp.refl _ | exact Imp.nil _ | (apply Imp.pull; focus ((repeat first | exact Del.head _ _ | apply Del.tail); done)) | (apply Imp.row; focus ((repeat first | exact Del.head _ _ | apply Del.tail); done)) | apply Imp.drop)) (D.ldR (v := .int .u32 a.ta) rfl pl26 (by (repeat first | exact LMem.head _ _ | apply LMem.tail)) rfl) ?_
              refine TR.p 2 rfl (by kernel_rfl) (DP.mv (by conv => lhs; whnf)) ?_
              refine TR.p 3 rfl (by kernel_rfl) (DP.nck rfl) ?_
              refine TR.p 4 rfl (by kernel_rfl) (DP.fa 1 rfl Tryd.underlying80 rfl rfl sz26) ?_
              refine TR.d 5 rfl (by kernel_rfl) (by kernel_rfl) (by (refine Ent.imp ?_; repeat first | exact Imp.refl _ | exact Imp.nil _ | (apply Imp.pull; focus ((repeat first | exact Del.head _ _ | apply Del.tail); done)) | (apply Imp.row; focus ((repeat first | exact Del.head _ _ | apply Del.tail); done)) | apply Imp.drop)) (D.ldR (v := .int .u32 q.addr) rfl pl26 (by (repeat first | exact LMem.head _ _ | apply LMem.tail)) rfl) ?_
              refine TR.p 6 rfl (by kernel_rfl) ((by first | exact DP.neq rfl rfl | exact DP.neqI rfl rfl)) ?_
              refine TR.pB 7 rfl (by kernel_rfl) (DP.mv (by conv => lhs; whnf)) (fun hg69 => ?_) (fun hg69 => ?_)
              · refine TR.off 8 rfl (by kernel_rfl) rfl rfl ?_
                refine TR.off 9 rfl (by kernel_rfl) rfl rfl ?_
                refine TR.off 10 rfl (by kernel_rfl) rfl rfl ?_
                refine TR.p 11 rfl (by kernel_rfl) (DP.pkT rfl (by conv => lhs; whnf)) ?_
                refine TR.done (by kernel_rfl) ?_
                refine TQ.nn ?_
                refine T.condT rfl ?_
                refine T.seq ?_
                refine T.reg ?_
                refine TO.p (DP.bdL (vs := []) (us := arV ar0) trivial pc34 zr34 rfl) ?_
                refine TO.n0 (N.stA (vs := arV ar0) rfl rfl sz34 (by (repeat first | exact Put.head _ _ _ | apply Put.tail)) (by simp [frV, arV, fr0, ar0]) (by simp [frV, arV, fr0, ar0, str, Value.oneCell']) (by rfl)) ?_
                rintro _ _ ⟨rfl, rfl⟩
                rw [show setAll _ 0 (arV ar0) = arV ar0 from rfl]
                refine TO.p (DP.as (by conv => lhs; whnf)) ?_
                refine TO.p (DP.as (by conv => lhs; whnf)) ?_
                refine TO.nil ?_
                refine TQ.nn ?_
                refine T.ret ?_
                refine TQ.nr ?_
                rw [take_ok hnb, if_pos (.inr hg48), if_pos (.inl hg69)]
                refine TQ.ret (vs := [.agg (arV ar0).toArray, .bool false, .int .i64 (0 : Nat)]) (L' := [row 80 p (tabV q v3), sl 40 3 v3 ((learnE q (tidyE now l) a.fa a.f now).1).length (((learnE q (tidyE now l) a.fa a.f now).1).flatMap nearV)]) rfl ⟨RV.atA rfl ag34 sz34 (by (repeat first | exact LMem.head _ _ | apply LMem.tail)) rfl, rfl, rfl, rfl⟩ ⟨rfl, _, rfl⟩ (by (refine Ent.imp ?_; repeat first | exact Imp.refl _ | exact Imp.nil _ | (apply Imp.pull; focus ((repeat first | exact Del.head _ _ | apply Del.tail); done)) | (apply Imp.row; focus ((repeat first | exact Del.head _ _ | apply Del.tail); done)) | apply Imp.drop))
              · refine TR.pon 8 rfl (by kernel_rfl) rfl (DP.fa 0 rfl Tryd.underlying34 rfl rfl sz22) ?_
                refine TR.don 9 rfl (by kernel_rfl) (by kernel_rfl) (by (refine Ent.imp ?_; repeat first | exact Imp.refl _ | exact Imp.nil _ | (apply Imp.pull; focus ((repeat first | exact Del.head _ _ | apply Del.tail); done)) | (apply Imp.row; focus ((repeat first | exact Del.head _ _ | apply Del.tail); done)) | apply Imp.drop)) rfl (D.ldR (v := .int .u16 a.op) rfl pl22 (by (repeat first | exact LMem.head _ _ | apply LMem.tail)) rfl) ?_
                refine TR.pon 10 rfl (by kernel_rfl) rfl ((by first | exact DP.neq (b := 1) rfl rfl | exact DP.neqI rfl rfl)) ?_
                refine TR.p 11 rfl (by kernel_rfl) (DP.pkF rfl (by conv => lhs; whnf)) ?_
                refine TR.done (by kernel_rfl) ?_
                refine TQ.nn ?_
                refine T.condD rfl (fun hc2 => ?_) (fun hc2 => ?_)
                · refine T.seq ?_
                  refine T.reg ?_
                  refine TO.p (DP.bdL (vs := []) (us := arV ar0) trivial pc34 zr34 rfl) ?_
                  refine TO.n0 (N.stA (vs := arV ar0) rfl rfl sz34 (by (repeat first | exact Put.head _ _ _ | apply Put.tail)) (by simp [frV, arV, fr0, ar0]) (by simp [frV, arV, fr0, ar0, str, Value.oneCell']) (by rfl)) ?_
                  rintro _ _ ⟨rfl, rfl⟩
                  rw [show setAll _ 0 (arV ar0) = arV ar0 from rfl]
                  refine TO.p (DP.as (by conv => lhs; whnf)) ?_
                  refine TO.p (DP.as (by conv => lhs; whnf)) ?_
                  refine TO.nil ?_
                  refine TQ.nn ?_
                  refine T.ret ?_
                  refine TQ.nr ?_
                  rw [take_ok hnb, if_pos (.inr hg48), if_pos (.inr hc2)]
                  refine TQ.ret (vs := [.agg (arV ar0).toArray, .bool false, .int .i64 (0 : Nat)]) (L' := [row 80 p (tabV q v3), sl 40 3 v3 ((learnE q (tidyE now l) a.fa a.f now).1).length (((learnE q (tidyE now l) a.fa a.f now).1).flatMap nearV)]) rfl ⟨RV.atA rfl ag34 sz34 (by (repeat first | exact LMem.head _ _ | apply LMem.tail)) rfl, rfl, rfl, rfl⟩ ⟨rfl, _, rfl⟩ (by (refine Ent.imp ?_; repeat first | exact Imp.refl _ | exact Imp.nil _ | (apply Imp.pull; focus ((repeat first | exact Del.head _ _ | apply Del.tail); done)) | (apply Imp.row; focus ((repeat first | exact Del.head _ _ | apply Del.tail); done)) | apply Imp.drop))
                · refine T.skip ?_
                  refine TQ.nn ?_
                  refine T.seq ?_
                  refine T.drawL [13] mixed (by repeat first | exact Calm.rt | apply Calm.t | apply Calm.b | apply Calm.l | apply Calm.ct) ?_
                  refine TR.p 0 rfl (by kernel_rfl) (DP.mv (by conv => lhs; whnf)) ?_
                  refine TR.p 1 rfl (by kernel_rfl) (DP.nck rfl) ?_
                  refine TR.p 2 rfl (by kernel_rfl) (DP.fa 0 rfl Tryd.underlying80 rfl rfl sz9) ?_
                  refine TR.d 3 rfl (by kernel_rfl) (by kernel_rfl) (by (refine Ent.imp ?_; repeat first | exact Imp.refl _ | exact Imp.nil _ | (apply Imp.pull; focus ((repeat first | exact Del.head _ _ | apply Del.tail); done)) | (apply Imp.row; focus ((repeat first | exact Del.head _ _ | apply Del.tail); done)) | apply Imp.drop)) (D.ldR (v := str q.mac) rfl pl9 (by (repeat first | exact LMem.head _ _ | apply LMem.tail)) rfl) ?_
                  refine TR.p 4 rfl (by kernel_rfl) (DP.mv (by conv => lhs; whnf)) ?_
                  refine TR.p 5 rfl (by kernel_rfl) (DP.nck rfl) ?_
                  refine TR.p 6 rfl (by kernel_rfl) (DP.fa 1 rfl Tryd.underlying80 rfl rfl sz26) ?_
                  refine TR.d 7 rfl (by kernel_rfl) (by kernel_rfl) (by (refine Ent.imp ?_; repeat first | exact Imp.refl _ | exact Imp.nil _ | (apply Imp.pull; focus ((repeat first | exact Del.head _ _ | apply Del.tail); done)) | (apply Imp.row; focus ((repeat first | exact Del.head _ _ | apply Del.tail); done)) | apply Imp.drop)) (D.ldR (v := .int .u32 q.addr) rfl pl26 (by (repeat first | exact LMem.head _ _ | apply LMem.tail)) rfl) ?_
                  refine TR.p 8 rfl (by kernel_rfl) (DP.fa 1 rfl Tryd.underlying34 rfl rfl sz9) ?_
                  refine TR.d 9 rfl (by kernel_rfl) (by kernel_rfl) (by (refine Ent.imp ?_; repeat first | exact Imp.refl _ | exact Imp.nil _ | (apply Imp.pull; focus ((repeat first | exact Del.head _ _ | apply Del.tail); done)) | (apply Imp.row; focus ((repeat first | exact Del.head _ _ | apply Del.tail); done)) | apply Imp.drop)) (D.ldR (v := str a.f) rfl pl9 (by (repeat first | exact LMem.head _ _ | apply LMem.tail)) rfl) ?_
                  refine TR.p 10 rfl (by kernel_rfl) (DP.fa 2 rfl Tryd.underlying34 rfl rfl sz26) ?_
                  refine TR.d 11 rfl (by kernel_rfl) (by kernel_rfl) (by (refine Ent.imp ?_; repeat first | exact Imp.refl _ | exact Imp.nil _ | (apply Imp.pull; focus ((repeat first | exact Del.head _ _ | apply Del.tail); done)) | (apply Imp.row; focus ((repeat first | exact Del.head _ _ | apply Del.tail); done)) | apply Imp.drop)) (D.ldR (v := .int .u32 a.fa) rfl pl26 (by (repeat first | exact LMem.head _ _ | apply LMem.tail)) rfl) ?_
                  refine TR.p 12 rfl (by kernel_rfl) (DP.bdL (vs := [(0, _), (1, _), (2, _), (3, _), (4, _)]) (us := arV ⟨2, q.mac, q.addr, a.f, a.fa⟩) ⟨rfl, rfl, rfl, rfl, rfl, rfl, rfl, rfl, rfl, rfl, trivial⟩ pc34 zr34 rfl) ?_
                  refine TR.n0 13 (by kernel_rfl) rfl (N.stA (vs := arV ⟨2, q.mac, q.addr, a.f, a.fa⟩) rfl rfl sz34 (by (repeat first | exact Put.head _ _ _ | apply Put.tail)) (by simp [frV, arV, fr0, ar0]) (by simp [frV, arV, fr0, ar0, str, Value.oneCell']) (by rfl)) ?_
                  rintro _ _ ⟨rfl, rfl⟩
                  rw [show setAll _ 0 (arV ⟨2, q.mac, q.addr, a.f, a.fa⟩) = arV ⟨2, q.mac, q.addr, a.f, a.fa⟩ from rfl]
                  refine ⟨.inl rfl, ?_⟩
                  refine TR.p 14 rfl (by kernel_rfl) (DP.as (by conv => lhs; whnf)) ?_
                  refine TR.p 15 rfl (by kernel_rfl) (DP.as (by conv => lhs; whnf)) ?_
                  refine TR.done (by kernel_rfl) ?_
                  refine TQ.nn ?_
                  refine T.ret ?_
                  rw [take_ok hnb, if_pos (.inr hg48), if_neg (by rintro (h | h); exact hg69 h; exact hc2 h)]
                  refine TQ.ret (vs := [.agg (arV ⟨2, q.mac, q.addr, a.f, a.fa⟩).toArray, .bool true, .int .i64 (0 : Nat)]) (L' := [row 80 p (tabV q v3), sl 40 3 v3 ((learnE q (tidyE now l) a.fa a.f now).1).length (((learnE q (tidyE now l) a.fa a.f now).1).flatMap nearV)]) rfl ⟨RV.atA rfl ag34 sz34 (by (repeat first | exact LMem.head _ _ | apply LMem.tail)) rfl, rfl, rfl, rfl⟩ ⟨rfl, _, rfl⟩ (by (refine Ent.imp ?_; repeat first | exact Imp.refl _ | exact Imp.nil _ | (apply Imp.pull; focus ((repeat first | exact Del.head _ _ | apply Del.tail); done)) | (apply Imp.row; focus ((repeat first | exact Del.head _ _ | apply Del.tail); done)) | apply Imp.drop))
            · refine TR.pon 8 rfl (by kernel_rfl) rfl (DP.mv (by conv => lhs; whnf)) ?_
              refine TR.pon 9 rfl (by kernel_rfl) rfl (DP.fa 2 rfl Tryd.underlying34 rfl rfl sz26) ?_
              refine TR.don 10 rfl (by kernel_rfl) (by kernel_rfl) (by (refine Ent.imp ?_; repeat first | exact Imp.refl _ | exact Imp.nil _ | (apply Imp.pull; focus ((repeat first | exact Del.head _ _ | apply Del.tail); done)) | (apply Imp.row; focus ((repeat first | exact Del.head _ _ | apply Del.tail); done)) | apply Imp.drop)) rfl (D.ldR (v := .int .u32 a.fa) rfl pl26 (by (repeat first | exact LMem.head _ _ | apply LMem.tail)) rfl) ?_
              refine TR.non 11 (by kernel_rfl) rfl rfl (N.callF (rfind_spec q (tidyE now l) v2 p (by omega) a.fa (tidy_srt hs)) Tryd.call48 ⟨rfl, rfl, trivial⟩ (by (repeat first | exact Pick.nil _ | (apply Pick.cons; focus ((repeat first | exact Del.head _ _ | apply Del.tail); done))))) ?_
              rintro u52 _ ⟨_, ⟨rfl, rfl⟩, rfl⟩
              try simp only [List.cons_append, List.nil_append]
              refine ⟨.inl rfl, ?_⟩
              refine TR.pon 12 rfl (by kernel_rfl) rfl (DP.geqI rfl rfl) ?_
              refine TR.p 13 rfl (by kernel_rfl) (DP.pkF rfl (by conv => lhs; whnf)) ?_
              refine TR.done (by kernel_rfl) ?_
              refine TQ.nn ?_
              refine T.condD rfl (fun hc1 => ?_) (fun hc1 => ?_)
              · refine T.reg ?_
                refine TO.p (DP.mv (by conv => lhs; whnf)) ?_
                refine TO.p (DP.fa 2 rfl Tryd.underlying34 rfl rfl sz26) ?_
                refine TO.d (D.ldR (v := .int .u32 a.fa) rfl pl26 (by (repeat first | exact LMem.head _ _ | apply LMem.tail)) rfl) ?_
                refine TO.p (DP.fa 1 rfl Tryd.underlying34 rfl rfl sz9) ?_
                refine TO.d (D.ldR (v := str a.f) rfl pl9 (by (repeat first | exact LMem.head _ _ | apply LMem.tail)) rfl) ?_
                refine TO.p (DP.mv (by conv => lhs; whnf)) ?_
                refine TO.n (N.callF (rlearn_spec q (tidyE now l) v2 p (by omega) a.fa a.f now hq (tidy_srt hs) hfa haf) Tryd.call29 ⟨rfl, rfl, rfl, rfl, trivial⟩ (by (repeat first | exact Pick.nil _ | (apply Pick.cons; focus ((repeat first | exact Del.head _ _ | apply Del.tail); done))))) ?_
                rintro u61 _ ⟨_, ⟨rfl, v3, rfl⟩, rfl⟩
                try simp only [List.cons_append, List.nil_append]
                refine TO.nil ?_
                refine TQ.nn ?_
                refine T.seq ?_
                refine T.seq ?_
                refine T.drawL [] mixed (by repeat first | exact Calm.rt | apply Calm.t | apply Calm.b | apply Calm.l | apply Calm.ct) ?_
                refine TR.p 0 rfl (by kernel_rfl) (DP.fa 4 rfl Tryd.underlying34 rfl rfl sz26) ?_
                refine TR.d 1 rfl (by kernel_rfl) (by kernel_rfl) (by (refine Ent.imp ?_; repeat first | exact Imp.refl _ | exact Imp.nil _ | (apply Imp.pull; focus ((repeat first | exact Del.head _ _ | apply Del.tail); done)) | (apply Imp.row; focus ((repeat first | exact Del.head _ _ | apply Del.tail); done)) | apply Imp.drop)) (D.ldR (v := .int .u32 a.ta) rfl pl26 (by (repeat first | exact LMem.head _ _ | apply LMem.tail)) rfl) ?_
                refine TR.p 2 rfl (by kernel_rfl) (DP.mv (by conv => lhs; whnf)) ?_
                refine TR.p 3 rfl (by kernel_rfl) (DP.nck rfl) ?_
                refine TR.p 4 rfl (by kernel_rfl) (DP.fa 1 rfl Tryd.underlying80 rfl rfl sz26) ?_
                refine TR.d 5 rfl (by kernel_rfl) (by kernel_rfl) (by (refine Ent.imp ?_; repeat first | exact Imp.refl _ | exact Imp.nil _ | (apply Imp.pull; focus ((repeat first | exact Del.head _ _ | apply Del.tail); done)) | (apply Imp.row; focus ((repeat first | exact Del.head _ _ | apply Del.tail); done)) | apply Imp.drop)) (D.ldR (v := .int .u32 q.addr) rfl pl26 (by (repeat first | exact LMem.head _ _ | apply LMem.tail)) rfl) ?_
                refine TR.p 6 rfl (by kernel_rfl) ((by first | exact DP.neq rfl rfl | exact DP.neqI rfl rfl)) ?_
                refine TR.pB 7 rfl (by kernel_rfl) (DP.mv (by conv => lhs; whnf)) (fun hg69 => ?_) (fun hg69 => ?_)
                · refine TR.off 8 rfl (by kernel_rfl) rfl rfl ?_
                  refine TR.off 9 rfl (by kernel_rfl) rfl rfl ?_
                  refine TR.off 10 rfl (by kernel_rfl) rfl rfl ?_
                  refine TR.p 11 rfl (by kernel_rfl) (DP.pkT rfl (by conv => lhs; whnf)) ?_
                  refine TR.done (by kernel_rfl) ?_
                  refine TQ.nn ?_
                  refine T.condT rfl ?_
                  refine T.seq ?_
                  refine T.reg ?_
                  refine TO.p (DP.bdL (vs := []) (us := arV ar0) trivial pc34 zr34 rfl) ?_
                  refine TO.n0 (N.stA (vs := arV ar0) rfl rfl sz34 (by (repeat first | exact Put.head _ _ _ | apply Put.tail)) (by simp [frV, arV, fr0, ar0]) (by simp [frV, arV, fr0, ar0, str, Value.oneCell']) (by rfl)) ?_
                  rintro _ _ ⟨rfl, rfl⟩
                  rw [show setAll _ 0 (arV ar0) = arV ar0 from rfl]
                  refine TO.p (DP.as (by conv => lhs; whnf)) ?_
                  refine TO.p (DP.as (by conv => lhs; whnf)) ?_
                  refine TO.nil ?_
                  refine TQ.nn ?_
                  refine T.ret ?_
                  refine TQ.nr ?_
                  rw [take_ok hnb, if_pos (.inl (rfind_ge.1 hc1)), if_pos (.inl hg69)]
                  refine TQ.ret (vs := [.agg (arV ar0).toArray, .bool false, .int .i64 (0 : Nat)]) (L' := [row 80 p (tabV q v3), sl 40 3 v3 ((learnE q (tidyE now l) a.fa a.f now).1).length (((learnE q (tidyE now l) a.fa a.f now).1).flatMap nearV)]) rfl ⟨RV.atA rfl ag34 sz34 (by (repeat first | exact LMem.head _ _ | apply LMem.tail)) rfl, rfl, rfl, rfl⟩ ⟨rfl, _, rfl⟩ (by (refine Ent.imp ?_; repeat first | exact Imp.refl _ | exact Imp.nil _ | (apply Imp.pull; focus ((repeat first | exact Del.head _ _ | apply Del.tail); done)) | (apply Imp.row; focus ((repeat first | exact Del.head _ _ | apply Del.tail); done)) | apply Imp.drop))
                · refine TR.pon 8 rfl (by kernel_rfl) rfl (DP.fa 0 rfl Tryd.underlying34 rfl rfl sz22) ?_
                  refine TR.don 9 rfl (by kernel_rfl) (by kernel_rfl) (by (refine Ent.imp ?_; repeat first | exact Imp.refl _ | exact Imp.nil _ | (apply Imp.pull; focus ((repeat first | exact Del.head _ _ | apply Del.tail); done)) | (apply Imp.row; focus ((repeat first | exact Del.head _ _ | apply Del.tail); done)) | apply Imp.drop)) rfl (D.ldR (v := .int .u16 a.op) rfl pl22 (by (repeat first | exact LMem.head _ _ | apply LMem.tail)) rfl) ?_
                  refine TR.pon 10 rfl (by kernel_rfl) rfl ((by first | exact DP.neq (b := 1) rfl rfl | exact DP.neqI rfl rfl)) ?_
                  refine TR.p 11 rfl (by kernel_rfl) (DP.pkF rfl (by conv => lhs; whnf)) ?_
                  refine TR.done (by kernel_rfl) ?_
                  refine TQ.nn ?_
                  refine T.condD rfl (fun hc2 => ?_) (fun hc2 => ?_)
                  · refine T.seq ?_
                    refine T.reg ?_
                    refine TO.p (DP.bdL (vs := []) (us := arV ar0) trivial pc34 zr34 rfl) ?_
                    refine TO.n0 (N.stA (vs := arV ar0) rfl rfl sz34 (by (repeat first | exact Put.head _ _ _ | apply Put.tail)) (by simp [frV, arV, fr0, ar0]) (by simp [frV, arV, fr0, ar0, str, Value.oneCell']) (by rfl)) ?_
                    rintro _ _ ⟨rfl, rfl⟩
                    rw [show setAll _ 0 (arV ar0) = arV ar0 from rfl]
                    refine TO.p (DP.as (by conv => lhs; whnf)) ?_
                    refine TO.p (DP.as (by conv => lhs; whnf)) ?_
                    refine TO.nil ?_
                    refine TQ.nn ?_
                    refine T.ret ?_
                    refine TQ.nr ?_
                    rw [take_ok hnb, if_pos (.inl (rfind_ge.1 hc1)), if_pos (.inr hc2)]
                    refine TQ.ret (vs := [.agg (arV ar0).toArray, .bool false, .int .i64 (0 : Nat)]) (L' := [row 80 p (tabV q v3), sl 40 3 v3 ((learnE q (tidyE now l) a.fa a.f now).1).length (((learnE q (tidyE now l) a.fa a.f now).1).flatMap nearV)]) rfl ⟨RV.atA rfl ag34 sz34 (by (repeat first | exact LMem.head _ _ | apply LMem.tail)) rfl, rfl, rfl, rfl⟩ ⟨rfl, _, rfl⟩ (by (refine Ent.imp ?_; repeat first | exact Imp.refl _ | exact Imp.nil _ | (apply Imp.pull; focus ((repeat first | exact Del.head _ _ | apply Del.tail); done)) | (apply Imp.row; focus ((repeat first | exact Del.head _ _ | apply Del.tail); done)) | apply Imp.drop))
                  · refine T.skip ?_
                    refine TQ.nn ?_
                    refine T.seq ?_
                    refine T.drawL [13] mixed (by repeat first | exact Calm.rt | apply Calm.t | apply Calm.b | apply Calm.l | apply Calm.ct) ?_
                    refine TR.p 0 rfl (by kernel_rfl) (DP.mv (by conv => lhs; whnf)) ?_
                    refine TR.p 1 rfl (by kernel_rfl) (DP.nck rfl) ?_
                    refine TR.p 2 rfl (by kernel_rfl) (DP.fa 0 rfl Tryd.underlying80 rfl rfl sz9) ?_
                    refine TR.d 3 rfl (by kernel_rfl) (by kernel_rfl) (by (refine Ent.imp ?_; repeat first | exact Imp.refl _ | exact Imp.nil _ | (apply Imp.pull; focus ((repeat first | exact Del.head _ _ | apply Del.tail); done)) | (apply Imp.row; focus ((repeat first | exact Del.head _ _ | apply Del.tail); done)) | apply Imp.drop)) (D.ldR (v := str q.mac) rfl pl9 (by (repeat first | exact LMem.head _ _ | apply LMem.tail)) rfl) ?_
                    refine TR.p 4 rfl (by kernel_rfl) (DP.mv (by conv => lhs; whnf)) ?_
                    refine TR.p 5 rfl (by kernel_rfl) (DP.nck rfl) ?_
                    refine TR.p 6 rfl (by kernel_rfl) (DP.fa 1 rfl Tryd.underlying80 rfl rfl sz26) ?_
                    refine TR.d 7 rfl (by kernel_rfl) (by kernel_rfl) (by (refine Ent.imp ?_; repeat first | exact Imp.refl _ | exact Imp.nil _ | (apply Imp.pull; focus ((repeat first | exact Del.head _ _ | apply Del.tail); done)) | (apply Imp.row; focus ((repeat first | exact Del.head _ _ | apply Del.tail); done)) | apply Imp.drop)) (D.ldR (v := .int .u32 q.addr) rfl pl26 (by (repeat first | exact LMem.head _ _ | apply LMem.tail)) rfl) ?_
                    refine TR.p 8 rfl (by kernel_rfl) (DP.fa 1 rfl Tryd.underlying34 rfl rfl sz9) ?_
                    refine TR.d 9 rfl (by kernel_rfl) (by kernel_rfl) (by (refine Ent.imp ?_; repeat first | exact Imp.refl _ | exact Imp.nil _ | (apply Imp.pull; focus ((repeat first | exact Del.head _ _ | apply Del.tail); done)) | (apply Imp.row; focus ((repeat first | exact Del.head _ _ | apply Del.tail); done)) | apply Imp.drop)) (D.ldR (v := str a.f) rfl pl9 (by (repeat first | exact LMem.head _ _ | apply LMem.tail)) rfl) ?_
                    refine TR.p 10 rfl (by kernel_rfl) (DP.fa 2 rfl Tryd.underlying34 rfl rfl sz26) ?_
                    refine TR.d 11 rfl (by kernel_rfl) (by kernel_rfl) (by (refine Ent.imp ?_; repeat first | exact Imp.refl _ | exact Imp.nil _ | (apply Imp.pull; focus ((repeat first | exact Del.head _ _ | apply Del.tail); done)) | (apply Imp.row; focus ((repeat first | exact Del.head _ _ | apply Del.tail); done)) | apply Imp.drop)) (D.ldR (v := .int .u32 a.fa) rfl pl26 (by (repeat first | exact LMem.head _ _ | apply LMem.tail)) rfl) ?_
                    refine TR.p 12 rfl (by kernel_rfl) (DP.bdL (vs := [(0, _), (1, _), (2, _), (3, _), (4, _)]) (us := arV ⟨2, q.mac, q.addr, a.f, a.fa⟩) ⟨rfl, rfl, rfl, rfl, rfl, rfl, rfl, rfl, rfl, rfl, trivial⟩ pc34 zr34 rfl) ?_
                    refine TR.n0 13 (by kernel_rfl) rfl (N.stA (vs := arV ⟨2, q.mac, q.addr, a.f, a.fa⟩) rfl rfl sz34 (by (repeat first | exact Put.head _ _ _ | apply Put.tail)) (by simp [frV, arV, fr0, ar0]) (by simp [frV, arV, fr0, ar0, str, Value.oneCell']) (by rfl)) ?_
                    rintro _ _ ⟨rfl, rfl⟩
                    rw [show setAll _ 0 (arV ⟨2, q.mac, q.addr, a.f, a.fa⟩) = arV ⟨2, q.mac, q.addr, a.f, a.fa⟩ from rfl]
                    refine ⟨.inl rfl, ?_⟩
                    refine TR.p 14 rfl (by kernel_rfl) (DP.as (by conv => lhs; whnf)) ?_
                    refine TR.p 15 rfl (by kernel_rfl) (DP.as (by conv => lhs; whnf)) ?_
                    refine TR.done (by kernel_rfl) ?_
                    refine TQ.nn ?_
                    refine T.ret ?_
                    rw [take_ok hnb, if_pos (.inl (rfind_ge.1 hc1)), if_neg (by rintro (h | h); exact hg69 h; exact hc2 h)]
                    refine TQ.ret (vs := [.agg (arV ⟨2, q.mac, q.addr, a.f, a.fa⟩).toArray, .bool true, .int .i64 (0 : Nat)]) (L' := [row 80 p (tabV q v3), sl 40 3 v3 ((learnE q (tidyE now l) a.fa a.f now).1).length (((learnE q (tidyE now l) a.fa a.f now).1).flatMap nearV)]) rfl ⟨RV.atA rfl ag34 sz34 (by (repeat first | exact LMem.head _ _ | apply LMem.tail)) rfl, rfl, rfl, rfl⟩ ⟨rfl, _, rfl⟩ (by (refine Ent.imp ?_; repeat first | exact Imp.refl _ | exact Imp.nil _ | (apply Imp.pull; focus ((repeat first | exact Del.head _ _ | apply Del.tail); done)) | (apply Imp.row; focus ((repeat first | exact Del.head _ _ | apply Del.tail); done)) | apply Imp.drop))
              · refine T.skip ?_
                refine TQ.nn ?_
                refine T.seq ?_
                refine T.seq ?_
                refine T.drawL [] mixed (by repeat first | exact Calm.rt | apply Calm.t | apply Calm.b | apply Calm.l | apply Calm.ct) ?_
                refine TR.p 0 rfl (by kernel_rfl) (DP.fa 4 rfl Tryd.underlying34 rfl rfl sz26) ?_
                refine TR.d 1 rfl (by kernel_rfl) (by kernel_rfl) (by (refine Ent.imp ?_; repeat first | exact Imp.refl _ | exact Imp.nil _ | (apply Imp.pull; focus ((repeat first | exact Del.head _ _ | apply Del.tail); done)) | (apply Imp.row; focus ((repeat first | exact Del.head _ _ | apply Del.tail); done)) | apply Imp.drop)) (D.ldR (v := .int .u32 a.ta) rfl pl26 (by (repeat first | exact LMem.head _ _ | apply LMem.tail)) rfl) ?_
                refine TR.p 2 rfl (by kernel_rfl) (DP.mv (by conv => lhs; whnf)) ?_
                refine TR.p 3 rfl (by kernel_rfl) (DP.nck rfl) ?_
                refine TR.p 4 rfl (by kernel_rfl) (DP.fa 1 rfl Tryd.underlying80 rfl rfl sz26) ?_
                refine TR.d 5 rfl (by kernel_rfl) (by kernel_rfl) (by (refine Ent.imp ?_; repeat first | exact Imp.refl _ | exact Imp.nil _ | (apply Imp.pull; focus ((repeat first | exact Del.head _ _ | apply Del.tail); done)) | (apply Imp.row; focus ((repeat first | exact Del.head _ _ | apply Del.tail); done)) | apply Imp.drop)) (D.ldR (v := .int .u32 q.addr) rfl pl26 (by (repeat first | exact LMem.head _ _ | apply LMem.tail)) rfl) ?_
                refine TR.p 6 rfl (by kernel_rfl) ((by first | exact DP.neq rfl rfl | exact DP.neqI rfl rfl)) ?_
                refine TR.pB 7 rfl (by kernel_rfl) (DP.mv (by conv => lhs; whnf)) (fun hg69 => ?_) (fun hg69 => ?_)
                · refine TR.off 8 rfl (by kernel_rfl) rfl rfl ?_
                  refine TR.off 9 rfl (by kernel_rfl) rfl rfl ?_
                  refine TR.off 10 rfl (by kernel_rfl) rfl rfl ?_
                  refine TR.p 11 rfl (by kernel_rfl) (DP.pkT rfl (by conv => lhs; whnf)) ?_
                  refine TR.done (by kernel_rfl) ?_
                  refine TQ.nn ?_
                  refine T.condT rfl ?_
                  refine T.seq ?_
                  refine T.reg ?_
                  refine TO.p (DP.bdL (vs := []) (us := arV ar0) trivial pc34 zr34 rfl) ?_
                  refine TO.n0 (N.stA (vs := arV ar0) rfl rfl sz34 (by (repeat first | exact Put.head _ _ _ | apply Put.tail)) (by simp [frV, arV, fr0, ar0]) (by simp [frV, arV, fr0, ar0, str, Value.oneCell']) (by rfl)) ?_
                  rintro _ _ ⟨rfl, rfl⟩
                  rw [show setAll _ 0 (arV ar0) = arV ar0 from rfl]
                  refine TO.p (DP.as (by conv => lhs; whnf)) ?_
                  refine TO.p (DP.as (by conv => lhs; whnf)) ?_
                  refine TO.nil ?_
                  refine TQ.nn ?_
                  refine T.ret ?_
                  refine TQ.nr ?_
                  rw [take_ok hnb, if_neg (by rintro (h | h); exact hc1 (rfind_ge.2 h); exact hg48 h), if_pos (.inl hg69)]
                  refine TQ.ret (vs := [.agg (arV ar0).toArray, .bool false, .int .i64 (0 : Nat)]) (L' := [row 80 p (tabV q v2), sl 40 3 v2 (tidyE now l).length ((tidyE now l).flatMap nearV)]) rfl ⟨RV.atA rfl ag34 sz34 (by (repeat first | exact LMem.head _ _ | apply LMem.tail)) rfl, rfl, rfl, rfl⟩ ⟨rfl, _, rfl⟩ (by (refine Ent.imp ?_; repeat first | exact Imp.refl _ | exact Imp.nil _ | (apply Imp.pull; focus ((repeat first | exact Del.head _ _ | apply Del.tail); done)) | (apply Imp.row; focus ((repeat first | exact Del.head _ _ | apply Del.tail); done)) | apply Imp.drop))
                · refine TR.pon 8 rfl (by kernel_rfl) rfl (DP.fa 0 rfl Tryd.underlying34 rfl rfl sz22) ?_
                  refine TR.don 9 rfl (by kernel_rfl) (by kernel_rfl) (by (refine Ent.imp ?_; repeat first | exact Imp.refl _ | exact Imp.nil _ | (apply Imp.pull; focus ((repeat first | exact Del.head _ _ | apply Del.tail); done)) | (apply Imp.row; focus ((repeat first | exact Del.head _ _ | apply Del.tail); done)) | apply Imp.drop)) rfl (D.ldR (v := .int .u16 a.op) rfl pl22 (by (repeat first | exact LMem.head _ _ | apply LMem.tail)) rfl) ?_
                  refine TR.pon 10 rfl (by kernel_rfl) rfl ((by first | exact DP.neq (b := 1) rfl rfl | exact DP.neqI rfl rfl)) ?_
                  refine TR.p 11 rfl (by kernel_rfl) (DP.pkF rfl (by conv => lhs; whnf)) ?_
                  refine TR.done (by kernel_rfl) ?_
                  refine TQ.nn ?_
                  refine T.condD rfl (fun hc2 => ?_) (fun hc2 => ?_)
                  · refine T.seq ?_
                    refine T.reg ?_
                    refine TO.p (DP.bdL (vs := []) (us := arV ar0) trivial pc34 zr34 rfl) ?_
                    refine TO.n0 (N.stA (vs := arV ar0) rfl rfl sz34 (by (repeat first | exact Put.head _ _ _ | apply Put.tail)) (by simp [frV, arV, fr0, ar0]) (by simp [frV, arV, fr0, ar0, str, Value.oneCell']) (by rfl)) ?_
                    rintro _ _ ⟨rfl, rfl⟩
                    rw [show setAll _ 0 (arV ar0) = arV ar0 from rfl]
                    refine TO.p (DP.as (by conv => lhs; whnf)) ?_
                    refine TO.p (DP.as (by conv => lhs; whnf)) ?_
                    refine TO.nil ?_
                    refine TQ.nn ?_
                    refine T.ret ?_
                    refine TQ.nr ?_
                    rw [take_ok hnb, if_neg (by rintro (h | h); exact hc1 (rfind_ge.2 h); exact hg48 h), if_pos (.inr hc2)]
                    refine TQ.ret (vs := [.agg (arV ar0).toArray, .bool false, .int .i64 (0 : Nat)]) (L' := [row 80 p (tabV q v2), sl 40 3 v2 (tidyE now l).length ((tidyE now l).flatMap nearV)]) rfl ⟨RV.atA rfl ag34 sz34 (by (repeat first | exact LMem.head _ _ | apply LMem.tail)) rfl, rfl, rfl, rfl⟩ ⟨rfl, _, rfl⟩ (by (refine Ent.imp ?_; repeat first | exact Imp.refl _ | exact Imp.nil _ | (apply Imp.pull; focus ((repeat first | exact Del.head _ _ | apply Del.tail); done)) | (apply Imp.row; focus ((repeat first | exact Del.head _ _ | apply Del.tail); done)) | apply Imp.drop))
                  · refine T.skip ?_
                    refine TQ.nn ?_
                    refine T.seq ?_
                    refine T.drawL [13] mixed (by repeat first | exact Calm.rt | apply Calm.t | apply Calm.b | apply Calm.l | apply Calm.ct) ?_
                    refine TR.p 0 rfl (by kernel_rfl) (DP.mv (by conv => lhs; whnf)) ?_
                    refine TR.p 1 rfl (by kernel_rfl) (DP.nck rfl) ?_
                    refine TR.p 2 rfl (by kernel_rfl) (DP.fa 0 rfl Tryd.underlying80 rfl rfl sz9) ?_
                    refine TR.d 3 rfl (by kernel_rfl) (by kernel_rfl) (by (refine Ent.imp ?_; repeat first | exact Imp.refl _ | exact Imp.nil _ | (apply Imp.pull; focus ((repeat first | exact Del.head _ _ | apply Del.tail); done)) | (apply Imp.row; focus ((repeat first | exact Del.head _ _ | apply Del.tail); done)) | apply Imp.drop)) (D.ldR (v := str q.mac) rfl pl9 (by (repeat first | exact LMem.head _ _ | apply LMem.tail)) rfl) ?_
                    refine TR.p 4 rfl (by kernel_rfl) (DP.mv (by conv => lhs; whnf)) ?_
                    refine TR.p 5 rfl (by kernel_rfl) (DP.nck rfl) ?_
                    refine TR.p 6 rfl (by kernel_rfl) (DP.fa 1 rfl Tryd.underlying80 rfl rfl sz26) ?_
                    refine TR.d 7 rfl (by kernel_rfl) (by kernel_rfl) (by (refine Ent.imp ?_; repeat first | exact Imp.refl _ | exact Imp.nil _ | (apply Imp.pull; focus ((repeat first | exact Del.head _ _ | apply Del.tail); done)) | (apply Imp.row; focus ((repeat first | exact Del.head _ _ | apply Del.tail); done)) | apply Imp.drop)) (D.ldR (v := .int .u32 q.addr) rfl pl26 (by (repeat first | exact LMem.head _ _ | apply LMem.tail)) rfl) ?_
                    refine TR.p 8 rfl (by kernel_rfl) (DP.fa 1 rfl Tryd.underlying34 rfl rfl sz9) ?_
                    refine TR.d 9 rfl (by kernel_rfl) (by kernel_rfl) (by (refine Ent.imp ?_; repeat first | exact Imp.refl _ | exact Imp.nil _ | (apply Imp.pull; focus ((repeat first | exact Del.head _ _ | apply Del.tail); done)) | (apply Imp.row; focus ((repeat first | exact Del.head _ _ | apply Del.tail); done)) | apply Imp.drop)) (D.ldR (v := str a.f) rfl pl9 (by (repeat first | exact LMem.head _ _ | apply LMem.tail)) rfl) ?_
                    refine TR.p 10 rfl (by kernel_rfl) (DP.fa 2 rfl Tryd.underlying34 rfl rfl sz26) ?_
                    refine TR.d 11 rfl (by kernel_rfl) (by kernel_rfl) (by (refine Ent.imp ?_; repeat first | exact Imp.refl _ | exact Imp.nil _ | (apply Imp.pull; focus ((repeat first | exact Del.head _ _ | apply Del.tail); done)) | (apply Imp.row; focus ((repeat first | exact Del.head _ _ | apply Del.tail); done)) | apply Imp.drop)) (D.ldR (v := .int .u32 a.fa) rfl pl26 (by (repeat first | exact LMem.head _ _ | apply LMem.tail)) rfl) ?_
                    refine TR.p 12 rfl (by kernel_rfl) (DP.bdL (vs := [(0, _), (1, _), (2, _), (3, _), (4, _)]) (us := arV ⟨2, q.mac, q.addr, a.f, a.fa⟩) ⟨rfl, rfl, rfl, rfl, rfl, rfl, rfl, rfl, rfl, rfl, trivial⟩ pc34 zr34 rfl) ?_
                    refine TR.n0 13 (by kernel_rfl) rfl (N.stA (vs := arV ⟨2, q.mac, q.addr, a.f, a.fa⟩) rfl rfl sz34 (by (repeat first | exact Put.head _ _ _ | apply Put.tail)) (by simp [frV, arV, fr0, ar0]) (by simp [frV, arV, fr0, ar0, str, Value.oneCell']) (by rfl)) ?_
                    rintro _ _ ⟨rfl, rfl⟩
                    rw [show setAll _ 0 (arV ⟨2, q.mac, q.addr, a.f, a.fa⟩) = arV ⟨2, q.mac, q.addr, a.f, a.fa⟩ from rfl]
                    refine ⟨.inl rfl, ?_⟩
                    refine TR.p 14 rfl (by kernel_rfl) (DP.as (by conv => lhs; whnf)) ?_
                    refine TR.p 15 rfl (by kernel_rfl) (DP.as (by conv => lhs; whnf)) ?_
                    refine TR.done (by kernel_rfl) ?_
                    refine TQ.nn ?_
                    refine T.ret ?_
                    rw [take_ok hnb, if_neg (by rintro (h | h); exact hc1 (rfind_ge.2 h); exact hg48 h), if_neg (by rintro (h | h); exact hg69 h; exact hc2 h)]
                    refine TQ.ret (vs := [.agg (arV ⟨2, q.mac, q.addr, a.f, a.fa⟩).toArray, .bool true, .int .i64 (0 : Nat)]) (L' := [row 80 p (tabV q v2), sl 40 3 v2 (tidyE now l).length ((tidyE now l).flatMap nearV)]) rfl ⟨RV.atA rfl ag34 sz34 (by (repeat first | exact LMem.head _ _ | apply LMem.tail)) rfl, rfl, rfl, rfl⟩ ⟨rfl, _, rfl⟩ (by (refine Ent.imp ?_; repeat first | exact Imp.refl _ | exact Imp.nil _ | (apply Imp.pull; focus ((repeat first | exact Del.head _ _ | apply Del.tail); done)) | (apply Imp.row; focus ((repeat first | exact Del.head _ _ | apply Del.tail); done)) | apply Imp.drop))

theorem rlook_spec (q : Tb) (l : List Nr) (v : Value) (p : Nat) (hlen : l.length ≤ 1048576) (a : Nat) (now : Nat) (hs : Srt l) :
    Sat Tryd.prog 30 [.pointer (some ⟨p, 0, none⟩), .int .u32 a, .int .u64 now] [row 80 p (tabV q v), sl 40 3 v (l).length ((l).flatMap nearV)] (fun u L' => u = .tuple #[str (lookE l a now).2.1, .int .i64 ((lookE l a now).2.2 : Nat)] ∧ ∃ v2, L' = [row 80 p (tabV q v2), sl 40 3 v2 ((lookE l a now).1).length (((lookE l a now).1).flatMap nearV)]) := by
  refine Sat.enter Tryd.func30 rfl Tryd.ntmps30 rfl (fun c R => ?_)
  try simp only [List.cons_append, List.nil_append]
  refine T.seq ?_
  refine T.reg ?_
  refine TO.p (DP.as (by conv => lhs; whnf)) ?_
  refine TO.p (DP.as (by conv => lhs; whnf)) ?_
  refine TO.nil ?_
  refine TQ.nn ?_
  refine T.seq ?_
  refine T.seq ?_
  refine T.reg ?_
  refine TO.p (DP.mv (by conv => lhs; whnf)) ?_
  refine TO.p ((by first | exact DP.geq (b := 4611686018427387904) rfl rfl | exact DP.geqI rfl rfl)) ?_
  refine TO.nil ?_
  refine TQ.nn ?_
  refine T.condD rfl (fun hc0 => ?_) (fun hc0 => ?_)
  · refine T.seq ?_
    refine T.reg ?_
    refine TO.p (DP.as (by conv => lhs; whnf)) ?_
    refine TO.p (DP.as (by conv => lhs; whnf)) ?_
    refine TO.nil ?_
    refine TQ.nn ?_
    refine T.ret ?_
    refine TQ.nr ?_
    rw [look_bad hc0]
    refine TQ.ret (vs := [str [], .int .i64 (2 : Nat)]) (L' := [row 80 p (tabV q v), sl 40 3 v (l).length ((l).flatMap nearV)]) rfl ⟨rfl, rfl, rfl⟩ ⟨rfl, _, rfl⟩ (by (refine Ent.imp ?_; repeat first | exact Imp.refl _ | exact Imp.nil _ | (apply Imp.pull; focus ((repeat first | exact Del.head _ _ | apply Del.tail); done)) | (apply Imp.row; focus ((repeat first | exact Del.head _ _ | apply Del.tail); done)) | apply Imp.drop))
  · refine T.skip ?_
    refine TQ.nn ?_
    refine T.seq ?_
    refine T.reg ?_
    have htl := tidy_len l now
    refine TO.p (DP.mv (by conv => lhs; whnf)) ?_
    refine TO.p (DP.mv (by conv => lhs; whnf)) ?_
    refine TO.n (N.callF (rtidy_spec q l v p hlen now) Tryd.call47 ⟨rfl, rfl, trivial⟩ (by (repeat first | exact Pick.nil _ | (apply Pick.cons; focus ((repeat first | exact Del.head _ _ | apply Del.tail); done))))) ?_
    rintro u13 _ ⟨_, ⟨rfl, v2, rfl⟩, rfl⟩
    try simp only [List.cons_append, List.nil_append]
    refine TO.nil ?_
    refine TQ.nn ?_
    refine T.seq ?_
    refine T.reg ?_
    refine TO.p (DP.mv (by conv => lhs; whnf)) ?_
    refine TO.p (DP.mv (by conv => lhs; whnf)) ?_
    refine TO.n (N.callF (rfind_spec q (tidyE now l) v2 p (by omega) a (tidy_srt hs)) Tryd.call48 ⟨rfl, rfl, trivial⟩ (by (repeat first | exact Pick.nil _ | (apply Pick.cons; focus ((repeat first | exact Del.head _ _ | apply Del.tail); done))))) ?_
    rintro u16 _ ⟨_, ⟨rfl, rfl⟩, rfl⟩
    try simp only [List.cons_append, List.nil_append]
    refine TO.p (DP.as (by conv => lhs; whnf)) ?_
    refine TO.nil ?_
    refine TQ.nn ?_
    refine T.seq ?_
    refine T.seq ?_
    refine T.reg ?_
    refine TO.p (DP.mv (by conv => lhs; whnf)) ?_
    refine TO.p (DP.lssI rfl rfl) ?_
    refine TO.nil ?_
    refine TQ.nn ?_
    refine T.condD rfl (fun hc1 => ?_) (fun hc1 => ?_)
    · refine T.seq ?_
      refine T.reg ?_
      refine TO.p (DP.as (by conv => lhs; whnf)) ?_
      refine TO.p (DP.as (by conv => lhs; whnf)) ?_
      refine TO.nil ?_
      refine TQ.nn ?_
      refine T.ret ?_
      refine TQ.nr ?_
      rw [look_none hc0 (by rw [← Bool.not_eq_true]; intro h; have := rfind_ge.2 h; omega)]
      refine TQ.ret (vs := [str [], .int .i64 (5 : Nat)]) (L' := [row 80 p (tabV q v2), sl 40 3 v2 (tidyE now l).length ((tidyE now l).flatMap nearV)]) rfl ⟨rfl, rfl, rfl⟩ ⟨rfl, _, rfl⟩ (by (refine Ent.imp ?_; repeat first | exact Imp.refl _ | exact Imp.nil _ | (apply Imp.pull; focus ((repeat first | exact Del.head _ _ | apply Del.tail); done)) | (apply Imp.row; focus ((repeat first | exact Del.head _ _ | apply Del.tail); done)) | apply Imp.drop))
    · have hh : hasE a (tidyE now l) = true := rfind_ge.1 (by omega)
      have hfi := rfind_at hh
      obtain ⟨sx, hsx, hsa⟩ := (has_pos (tidy_srt (now := now) hs)).1 hh
      have hpl : posE a (tidyE now l) < (tidyE now l).length := by rcases Nat.lt_or_ge (posE a (tidyE now l)) (tidyE now l).length with h5 | h5; exact h5; rw [List.getElem?_eq_none h5] at hsx; cases hsx
      refine T.skip ?_
      refine TQ.nn ?_
      refine T.seq ?_
      refine T.reg ?_
      refine TO.p (DP.mv (by conv => lhs; whnf)) ?_
      refine TO.p (DP.nck rfl) ?_
      refine TO.p (DP.fa 4 rfl Tryd.underlying80 rfl rfl sz32) ?_
      refine TO.d (D.ldR (v := v2) rfl pl32 (by (repeat first | exact LMem.head _ _ | apply LMem.tail)) rfl) ?_
      refine TO.p (DP.to (v' := .int .i64 ((posE a (tidyE now l) : Nat) : Int)) (DP.mv (by conv => lhs; whnf)) (by rw [hfi])) ?_
      refine TO.d (D.iasO rfl rfl Tryd.underlying32 sz40 (by (repeat first | exact LMem.head _ _ | apply LMem.tail)) hpl) ?_
      refine TO.d (D.faO 1 (by conv => lhs; whnf) Tryd.underlying40 rfl rfl sz9 (by (repeat first | exact LMem.head _ _ | apply LMem.tail)) hpl) ?_
      refine TO.d (D.ldOF (u := str sx.m) (by conv => lhs; whnf) pl9 (by (repeat first | exact LMem.head _ _ | apply LMem.tail)) (flat_elem nearV_len hsx 1 _ rfl) hpl) ?_
      refine TO.p (DP.as (by conv => lhs; whnf)) ?_
      refine TO.p (DP.as (by conv => lhs; whnf)) ?_
      refine TO.nil ?_
      refine TQ.nn ?_
      refine T.ret ?_
      rw [look_some hc0 hs (mem_of_get hsx) hsa]
      refine TQ.ret (vs := [str sx.m, .int .i64 (0 : Nat)]) (L' := [row 80 p (tabV q v2), sl 40 3 v2 (tidyE now l).length ((tidyE now l).flatMap nearV)]) rfl ⟨rfl, rfl, rfl⟩ ⟨rfl, _, rfl⟩ (by (refine Ent.imp ?_; repeat first | exact Imp.refl _ | exact Imp.nil _ | (apply Imp.pull; focus ((repeat first | exact Del.head _ _ | apply Del.tail); done)) | (apply Imp.row; focus ((repeat first | exact Del.head _ _ | apply Del.tail); done)) | apply Imp.drop))

theorem rnear_spec (q : Tb) (l : List Nr) (v : Value) (p : Nat) (hlen : l.length ≤ 1048576) (now : Nat) :
    Sat Tryd.prog 31 [.pointer (some ⟨p, 0, none⟩), .int .u64 now] [row 80 p (tabV q v), sl 40 3 v (l).length ((l).flatMap nearV)] (fun u L' => L' = [row 80 p (tabV q u), sl 40 3 u (nearE l now).length ((nearE l now).flatMap nearV)]) := by
  refine Sat.enter Tryd.func31 rfl Tryd.ntmps31 rfl (fun c R => ?_)
  try simp only [List.cons_append, List.nil_append]
  refine T.seq ?_
  refine T.reg ?_
  refine TO.p (DP.as (by conv => lhs; whnf)) ?_
  refine TO.nil ?_
  refine TQ.nn ?_
  refine T.seq ?_
  refine T.seq ?_
  refine T.reg ?_
  refine TO.p (DP.mv (by conv => lhs; whnf)) ?_
  refine TO.p ((by first | exact DP.lss (b := 4611686018427387904) rfl rfl | exact DP.lssI rfl rfl)) ?_
  refine TO.nil ?_
  refine TQ.nn ?_
  refine T.condD rfl (fun hc0 => ?_) (fun hc0 => ?_)
  · refine T.reg ?_
    refine TO.p (DP.mv (by conv => lhs; whnf)) ?_
    refine TO.p (DP.mv (by conv => lhs; whnf)) ?_
    refine TO.n (N.callF (rtidy_spec q l v p hlen now) Tryd.call47 ⟨rfl, rfl, trivial⟩ (by (repeat first | exact Pick.nil _ | (apply Pick.cons; focus ((repeat first | exact Del.head _ _ | apply Del.tail); done))))) ?_
    rintro u9 _ ⟨_, ⟨rfl, v2, rfl⟩, rfl⟩
    try simp only [List.cons_append, List.nil_append]
    refine TO.nil ?_
    refine TQ.nn ?_
    refine T.seq ?_
    refine T.reg ?_
    refine TO.p (DP.mv (by conv => lhs; whnf)) ?_
    refine TO.p (DP.nck rfl) ?_
    refine TO.p (DP.fa 4 rfl Tryd.underlying80 rfl rfl sz32) ?_
    refine TO.d (D.ldR (v := v2) rfl pl32 (by (repeat first | exact LMem.head _ _ | apply LMem.tail)) rfl) ?_
    refine TO.p (DP.as (by conv => lhs; whnf)) ?_
    refine TO.nil ?_
    refine TQ.nn ?_
    refine T.ret ?_
    rw [show nearE l now = tidyE now l from if_pos hc0]
    refine TQ.ret (vs := [v2]) (L' := [row 80 p (tabV q v2), sl 40 3 v2 (tidyE now l).length ((tidyE now l).flatMap nearV)]) rfl ⟨rfl, rfl⟩ rfl (by (refine Ent.imp ?_; repeat first | exact Imp.refl _ | exact Imp.nil _ | (apply Imp.pull; focus ((repeat first | exact Del.head _ _ | apply Del.tail); done)) | (apply Imp.row; focus ((repeat first | exact Del.head _ _ | apply Del.tail); done)) | apply Imp.drop))
  · refine T.skip ?_
    refine TQ.nn ?_
    refine T.seq ?_
    refine T.reg ?_
    refine TO.p (DP.mv (by conv => lhs; whnf)) ?_
    refine TO.p (DP.nck rfl) ?_
    refine TO.p (DP.fa 4 rfl Tryd.underlying80 rfl rfl sz32) ?_
    refine TO.d (D.ldR (v := v) rfl pl32 (by (repeat first | exact LMem.head _ _ | apply LMem.tail)) rfl) ?_
    refine TO.p (DP.as (by conv => lhs; whnf)) ?_
    refine TO.nil ?_
    refine TQ.nn ?_
    refine T.ret ?_
    rw [show nearE l now = l from if_neg hc0]
    refine TQ.ret (vs := [v]) (L' := [row 80 p (tabV q v), sl 40 3 v (l).length ((l).flatMap nearV)]) rfl ⟨rfl, rfl⟩ rfl (by (refine Ent.imp ?_; repeat first | exact Imp.refl _ | exact Imp.nil _ | (apply Imp.pull; focus ((repeat first | exact Del.head _ _ | apply Del.tail); done)) | (apply Imp.row; focus ((repeat first | exact Del.head _ _ | apply Del.tail); done)) | apply Imp.drop))
end Go.Proofs.YtbandaebilkkkaaDoor
