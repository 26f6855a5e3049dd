/- Lemmas for the proofs of this seat: no statement of the seat is claimed here. -/
import Derived.Test.YtbandaebilkkkaaDoorK6
set_option linter.all false
namespace Go.Proofs.YtbandaebilkkkaaDoor
open Go Pw
set_option maxRecDepth 20000
set_option maxHeartbeats 4000000

theorem eg74 : Tryd.prog.eqGuardType Tryd.prog.depth 74 = false := by kernel_rfl
theorem deca_spec (s : List UInt8) (hs : s.length ≤ 1048576) :
    Sat Tryd.prog 22 [str s] [] (fun u L' => u = .tuple #[.agg (arV (decA s).1).toArray, .int .i64 ((decA s).2 : Nat)] ∧ L' = []) := by
  refine Sat.enter Tryd.func22 rfl Tryd.ntmps22 rfl (fun c R => ?_)
  try simp only [List.cons_append, List.nil_append]
  refine T.seq ?_
  refine T.reg ?_
  refine TO.n (N.alA zr34) ?_
  rintro _ _ ⟨b2, rfl, rfl⟩
  refine TO.p (DP.as (by conv => lhs; whnf)) ?_
  refine TO.nil ?_
  refine TQ.nn ?_
  refine T.seq ?_
  refine T.seq ?_
  refine T.reg ?_
  refine TO.p (DP.mv (by conv => lhs; whnf)) ?_
  refine TO.p (DP.lenT rfl Tryd.underlying9) ?_
  refine TO.p ((by first | exact DP.lss (b := 28) rfl rfl | exact DP.lssI rfl rfl)) ?_
  refine TO.nil ?_
  refine TQ.nn ?_
  refine T.condD rfl (fun hc0 => ?_) (fun hc0 => ?_)
  · refine T.seq ?_
    refine T.reg ?_
    refine TO.p (DP.bdL (vs := []) (us := arV ar0) trivial pc34 zr34 rfl) ?_
    refine TO.n0 (N.stA (vs := arV ar0) rfl rfl sz34 (by (repeat first | exact Put.head _ _ _ | apply Put.tail)) (by simp [frV, arV, fr0, ar0]) (by simp [frV, arV, fr0, ar0, str, Value.oneCell']) (by rfl)) ?_
    rintro _ _ ⟨rfl, rfl⟩
    rw [show setAll _ 0 (arV ar0) = arV ar0 from rfl]
    refine TO.p (DP.as (by conv => lhs; whnf)) ?_
    refine TO.nil ?_
    refine TQ.nn ?_
    refine T.ret ?_
    refine TQ.nr ?_
    rw [decA_short s hc0]
    refine TQ.ret (vs := [.agg (arV ar0).toArray, .int .i64 (7 : Nat)]) (L' := []) rfl ⟨RV.atA rfl ag34 sz34 (by (repeat first | exact LMem.head _ _ | apply LMem.tail)) rfl, rfl, rfl⟩ ⟨rfl, rfl⟩ (by (refine Ent.imp ?_; repeat first | exact Imp.refl _ | exact Imp.nil _ | (apply Imp.pull; focus ((repeat first | exact Del.head _ _ | apply Del.tail); done)) | (apply Imp.row; focus ((repeat first | exact Del.head _ _ | apply Del.tail); done)) | apply Imp.drop))
  · refine T.skip ?_
    refine TQ.nn ?_
    refine T.seq ?_
    refine T.drawL [2, 8, 14, 17, 18] mixed (by repeat first | exact Calm.rt | apply Calm.t | apply Calm.b | apply Calm.l | apply Calm.ct) ?_
    refine TR.p 0 rfl (by kernel_rfl) (DP.mv (by conv => lhs; whnf)) ?_
    refine TR.p 1 rfl (by kernel_rfl) (DP.slT (i := 6) (j := 8) rfl rfl rfl Tryd.underlying9 (by omega) (by omega)) ?_
    refine TR.p 4 rfl (by kernel_rfl) (DP.mv (by conv => lhs; whnf)) ?_
    refine TR.p 5 rfl (by kernel_rfl) (DP.slT (i := 8) (j := 14) rfl rfl rfl Tryd.underlying9 (by omega) (by omega)) ?_
    refine TR.p 6 rfl (by kernel_rfl) (DP.mv (by conv => lhs; whnf)) ?_
    refine TR.p 7 rfl (by kernel_rfl) (DP.slT (i := 14) (j := 18) rfl rfl rfl Tryd.underlying9 (by omega) (by omega)) ?_
    refine TR.p 10 rfl (by kernel_rfl) (DP.mv (by conv => lhs; whnf)) ?_
    refine TR.p 11 rfl (by kernel_rfl) (DP.slT (i := 18) (j := 24) rfl rfl rfl Tryd.underlying9 (by omega) (by omega)) ?_
    refine TR.p 12 rfl (by kernel_rfl) (DP.mv (by conv => lhs; whnf)) ?_
    refine TR.p 13 rfl (by kernel_rfl) (DP.slT (i := 24) (j := 28) rfl rfl rfl Tryd.underlying9 (by omega) (by omega)) ?_
    refine TR.two 2 17 (by kernel_rfl) rfl (N.callF (value_spec ((s.take 8).drop 6) (by simp; omega)) Tryd.call44 ⟨rfl, trivial⟩ (by (repeat first | exact Pick.nil _ | (apply Pick.cons; focus ((repeat first | exact Del.head _ _ | apply Del.tail); done))))) rfl (N.alA zr34) ?_ ?_
    · rintro u11 _ ⟨_, ⟨rfl, rfl⟩, rfl⟩
      try simp only [List.cons_append, List.nil_append]
      refine ⟨.inl rfl, ?_⟩
      refine TR.p 3 rfl (by kernel_rfl) (DP.to (v' := .int .u16 (valE ((s.take 8).drop 6) % 65536 : Nat)) (DP.cvW rfl is31 Tryd.underlying22 rfl (l := 65536) rfl) rfl) ?_
      refine TR.two 8 17 (by kernel_rfl) rfl (N.callF (value_spec ((s.take 18).drop 14) (by simp; omega)) Tryd.call44 ⟨rfl, trivial⟩ (by (repeat first | exact Pick.nil _ | (apply Pick.cons; focus ((repeat first | exact Del.head _ _ | apply Del.tail); done))))) rfl (N.alA zr34) ?_ ?_
      · rintro u17 _ ⟨_, ⟨rfl, rfl⟩, rfl⟩
        try simp only [List.cons_append, List.nil_append]
        refine ⟨.inl rfl, ?_⟩
        refine TR.p 9 rfl (by kernel_rfl) (DP.to (v' := .int .u32 (valE ((s.take 18).drop 14) % 4294967296 : Nat)) (DP.cvW rfl is31 Tryd.underlying26 rfl (l := 4294967296) rfl) rfl) ?_
        refine TR.two 14 17 (by kernel_rfl) rfl (N.callF (value_spec ((s.take 28).drop 24) (by simp; omega)) Tryd.call44 ⟨rfl, trivial⟩ (by (repeat first | exact Pick.nil _ | (apply Pick.cons; focus ((repeat first | exact Del.head _ _ | apply Del.tail); done))))) rfl (N.alA zr34) ?_ ?_
        · rintro u23 _ ⟨_, ⟨rfl, rfl⟩, rfl⟩
          try simp only [List.cons_append, List.nil_append]
          refine ⟨.inl rfl, ?_⟩
          refine TR.p 15 rfl (by kernel_rfl) (DP.to (v' := .int .u32 (valE ((s.take 28).drop 24) % 4294967296 : Nat)) (DP.cvW rfl is31 Tryd.underlying26 rfl (l := 4294967296) rfl) rfl) ?_
          refine TR.p 16 rfl (by kernel_rfl) (DP.bdL (vs := [(0, _), (1, _), (2, _), (3, _), (4, _)]) (us := arV (arOf s)) ⟨rfl, rfl, rfl, rfl, rfl, rfl, rfl, rfl, rfl, rfl, trivial⟩ pc34 zr34 rfl) ?_
          refine TR.n 17 (by kernel_rfl) rfl (N.alA zr34) ?_
          rintro _ _ ⟨b4, rfl, rfl⟩
          refine ⟨.inl rfl, ?_⟩
          refine TR.n0 18 (by kernel_rfl) rfl (N.stA (vs := arV (arOf s)) rfl rfl sz34 (by (repeat first | exact Put.head _ _ _ | apply Put.tail)) (by simp [frV, arV, fr0, ar0]) (by simp [frV, arV, fr0, ar0, str, Value.oneCell']) (by rfl)) ?_
          rintro _ _ ⟨rfl, rfl⟩
          rw [show setAll _ 0 (arV (arOf s)) = arV (arOf s) from rfl]
          refine ⟨.inl rfl, ?_⟩
          refine TR.done (by kernel_rfl) ?_
          refine TQ.nn ?_
          refine T.seq ?_
          refine T.seq ?_
          refine T.drawL [9] mixed (by repeat first | exact Calm.rt | apply Calm.t | apply Calm.b | apply Calm.l | apply Calm.ct) ?_
          refine TR.p 0 rfl (by kernel_rfl) (DP.mv (by conv => lhs; whnf)) ?_
          refine TR.p 1 rfl (by kernel_rfl) (DP.slTh (j := 6) rfl rfl Tryd.underlying9 (by omega)) ?_
          refine TR.two 2 5 (by kernel_rfl) rfl (N.csb rfl Tryd.underlying9 Tryd.underlying60 Tryd.underlying5) rfl (N.callF (first_spec) Tryd.call42 trivial (by (repeat first | exact Pick.nil _ | (apply Pick.cons; focus ((repeat first | exact Del.head _ _ | apply Del.tail); done))))) ?_ ?_
          · rintro _ _ ⟨b28, r28, rfl, rfl⟩
            refine ⟨.inr (by (refine Ent.imp ?_; repeat first | exact Imp.refl _ | exact Imp.nil _ | (apply Imp.pull; focus ((repeat first | exact Del.head _ _ | apply Del.tail); done)) | (apply Imp.row; focus ((repeat first | exact Del.head _ _ | apply Del.tail); done)) | apply Imp.drop)), ?_⟩
            refine TR.p 3 rfl (by kernel_rfl) (DP.s2a rfl Tryd.underlying74 (by simp; omega)) ?_
            refine TR.two 4 5 (by kernel_rfl) rfl (D.n (D.ldRM (vs := (s.take 6).map byteV) rfl ag74 sz74 (by (repeat first | exact LMem.head _ _ | apply LMem.tail)) (fun i v hv => by rw [Nat.zero_add, List.getElem?_append_left (by rcases Nat.lt_or_ge i ((s.take 6).map byteV).length with h | h; exact h; rw [List.getElem?_eq_none h] at hv; cases hv)]; exact hv) (by simp; omega))) rfl (N.callF (first_spec) Tryd.call42 trivial (by (repeat first | exact Pick.nil _ | (apply Pick.cons; focus ((repeat first | exact Del.head _ _ | apply Del.tail); done))))) ?_ ?_
            · rintro _ _ ⟨rfl, rfl⟩
              refine ⟨.inr (by (refine Ent.imp ?_; repeat first | exact Imp.refl _ | exact Imp.nil _ | (apply Imp.pull; focus ((repeat first | exact Del.head _ _ | apply Del.tail); done)) | (apply Imp.row; focus ((repeat first | exact Del.head _ _ | apply Del.tail); done)) | apply Imp.drop)), ?_⟩
              refine TR.n 5 (by kernel_rfl) rfl (N.callF (first_spec) Tryd.call42 trivial (by (repeat first | exact Pick.nil _ | (apply Pick.cons; focus ((repeat first | exact Del.head _ _ | apply Del.tail); done))))) ?_
              rintro u31 _ ⟨_, ⟨rfl, rfl⟩, rfl⟩
              try simp only [List.cons_append, List.nil_append]
              refine ⟨.inr (by (refine Ent.imp ?_; repeat first | exact Imp.refl _ | exact Imp.nil _ | (apply Imp.pull; focus ((repeat first | exact Del.head _ _ | apply Del.tail); done)) | (apply Imp.row; focus ((repeat first | exact Del.head _ _ | apply Del.tail); done)) | apply Imp.drop)), ?_⟩
              refine TR.p 6 rfl (by kernel_rfl) (DP.to (v' := .bool (decide (s.take 6 ≠ hdE))) (DP.neOf rfl rfl eg74 (fun w => eqBytes Tryd.underlying74 Tryd.underlying5 pl5 sz5 (by simp; omega) rfl w)) (by simp)) ?_
              refine TR.pB 7 rfl (by kernel_rfl) (DP.mv (by conv => lhs; whnf)) (fun hg33 => ?_) (fun hg33 => ?_)
              · refine TR.off 8 rfl (by kernel_rfl) rfl rfl ?_
                refine TR.off 9 rfl (by kernel_rfl) rfl rfl ?_
                refine TR.off 10 rfl (by kernel_rfl) rfl rfl ?_
                refine TR.p 11 rfl (by kernel_rfl) (DP.pkT rfl (by conv => lhs; whnf)) ?_
                refine TR.done (by kernel_rfl) ?_
                refine TQ.nn ?_
                refine T.condT rfl ?_
                refine T.seq ?_
                refine T.reg ?_
                refine TO.p (DP.bdL (vs := []) (us := arV ar0) trivial pc34 zr34 rfl) ?_
                refine TO.n0 (N.stA (vs := arV ar0) rfl rfl sz34 (by (repeat first | exact Put.head _ _ _ | apply Put.tail)) (by simp [frV, arV, fr0, ar0]) (by simp [frV, arV, fr0, ar0, str, Value.oneCell']) (by rfl)) ?_
                rintro _ _ ⟨rfl, rfl⟩
                rw [show setAll _ 0 (arV ar0) = arV ar0 from rfl]
                refine TO.p (DP.as (by conv => lhs; whnf)) ?_
                refine TO.nil ?_
                refine TQ.nn ?_
                refine T.ret ?_
                refine TQ.nr ?_
                rw [decA_bad s hc0 (fun h5 => hg33 h5.1)]
                refine TQ.ret (vs := [.agg (arV ar0).toArray, .int .i64 (8 : Nat)]) (L' := []) rfl ⟨RV.atA rfl ag34 sz34 (by (repeat first | exact LMem.head _ _ | apply LMem.tail)) rfl, rfl, rfl⟩ ⟨rfl, rfl⟩ (by (refine Ent.imp ?_; repeat first | exact Imp.refl _ | exact Imp.nil _ | (apply Imp.pull; focus ((repeat first | exact Del.head _ _ | apply Del.tail); done)) | (apply Imp.row; focus ((repeat first | exact Del.head _ _ | apply Del.tail); done)) | apply Imp.drop))
              · refine TR.don 8 rfl (by kernel_rfl) (by kernel_rfl) (by (refine Ent.imp ?_; repeat first | exact Imp.refl _ | exact Imp.nil _ | (apply Imp.pull; focus ((repeat first | exact Del.head _ _ | apply Del.tail); done)) | (apply Imp.row; focus ((repeat first | exact Del.head _ _ | apply Del.tail); done)) | apply Imp.drop)) rfl (D.ldRA (cs := arV (arOf s)) rfl ag34 sz34 (by (repeat first | exact LMem.head _ _ | apply LMem.tail)) rfl) ?_
                refine TR.non 9 (by kernel_rfl) rfl rfl (N.callF (may_spec (arOf s)) Tryd.call33 ⟨rfl, trivial⟩ (by (repeat first | exact Pick.nil _ | (apply Pick.cons; focus ((repeat first | exact Del.head _ _ | apply Del.tail); done))))) ?_
                rintro u35 _ ⟨_, ⟨rfl, rfl⟩, rfl⟩
                try simp only [List.cons_append, List.nil_append]
                refine ⟨.inl rfl, ?_⟩
                refine TR.pon 10 rfl (by kernel_rfl) rfl (DP.not rfl) ?_
                refine TR.p 11 rfl (by kernel_rfl) (DP.pkF rfl (by conv => lhs; whnf)) ?_
                refine TR.done (by kernel_rfl) ?_
                refine TQ.nn ?_
                refine T.condB rfl (fun hc1 => ?_) (fun hc1 => ?_)
                · refine T.seq ?_
                  refine T.reg ?_
                  refine TO.p (DP.bdL (vs := []) (us := arV ar0) trivial pc34 zr34 rfl) ?_
                  refine TO.n0 (N.stA (vs := arV ar0) rfl rfl sz34 (by (repeat first | exact Put.head _ _ _ | apply Put.tail)) (by simp [frV, arV, fr0, ar0]) (by simp [frV, arV, fr0, ar0, str, Value.oneCell']) (by rfl)) ?_
                  rintro _ _ ⟨rfl, rfl⟩
                  rw [show setAll _ 0 (arV ar0) = arV ar0 from rfl]
                  refine TO.p (DP.as (by conv => lhs; whnf)) ?_
                  refine TO.nil ?_
                  refine TQ.nn ?_
                  refine T.ret ?_
                  refine TQ.nr ?_
                  rw [decA_bad s hc0 (fun h5 => by rw [h5.2] at hc1; cases hc1)]
                  refine TQ.ret (vs := [.agg (arV ar0).toArray, .int .i64 (8 : Nat)]) (L' := []) rfl ⟨RV.atA rfl ag34 sz34 (by (repeat first | exact LMem.head _ _ | apply LMem.tail)) rfl, rfl, rfl⟩ ⟨rfl, rfl⟩ (by (refine Ent.imp ?_; repeat first | exact Imp.refl _ | exact Imp.nil _ | (apply Imp.pull; focus ((repeat first | exact Del.head _ _ | apply Del.tail); done)) | (apply Imp.row; focus ((repeat first | exact Del.head _ _ | apply Del.tail); done)) | apply Imp.drop))
                · refine T.skip ?_
                  refine TQ.nn ?_
                  refine T.seq ?_
                  refine T.reg ?_
                  refine TO.d (D.ldRA (cs := arV (arOf s)) rfl ag34 sz34 (by (repeat first | exact LMem.head _ _ | apply LMem.tail)) rfl) ?_
                  refine TO.n0 (N.stA (vs := arV (arOf s)) rfl rfl sz34 (by (repeat first | exact Put.head _ _ _ | apply Put.tail)) (by simp [frV, arV, fr0, ar0]) (by simp [frV, arV, fr0, ar0, str, Value.oneCell']) (by rfl)) ?_
                  rintro _ _ ⟨rfl, rfl⟩
                  rw [show setAll _ 0 (arV (arOf s)) = arV (arOf s) from rfl]
                  refine TO.p (DP.as (by conv => lhs; whnf)) ?_
                  refine TO.nil ?_
                  refine TQ.nn ?_
                  refine T.ret ?_
                  rw [decA_ok s hc0 (Decidable.not_not.1 hg33) (by simpa using hc1)]
                  refine TQ.ret (vs := [.agg (arV (arOf s)).toArray, .int .i64 (0 : Nat)]) (L' := []) rfl ⟨RV.atA rfl ag34 sz34 (by (repeat first | exact LMem.head _ _ | apply LMem.tail)) rfl, rfl, rfl⟩ ⟨rfl, rfl⟩ (by (refine Ent.imp ?_; repeat first | exact Imp.refl _ | exact Imp.nil _ | (apply Imp.pull; focus ((repeat first | exact Del.head _ _ | apply Del.tail); done)) | (apply Imp.row; focus ((repeat first | exact Del.head _ _ | apply Del.tail); done)) | apply Imp.drop))
            · rintro u31 _ ⟨_, ⟨rfl, rfl⟩, rfl⟩
              try simp only [List.cons_append, List.nil_append]
              refine ⟨.inr (by (refine Ent.imp ?_; repeat first | exact Imp.refl _ | exact Imp.nil _ | (apply Imp.pull; focus ((repeat first | exact Del.head _ _ | apply Del.tail); done)) | (apply Imp.row; focus ((repeat first | exact Del.head _ _ | apply Del.tail); done)) | apply Imp.drop)), ?_⟩
              refine TR.n 4 (by kernel_rfl) rfl (D.n (D.ldRM (vs := (s.take 6).map byteV) rfl ag74 sz74 (by (repeat first | exact LMem.head _ _ | apply LMem.tail)) (fun i v hv => by rw [Nat.zero_add, List.getElem?_append_left (by rcases Nat.lt_or_ge i ((s.take 6).map byteV).length with h | h; exact h; rw [List.getElem?_eq_none h] at hv; cases hv)]; exact hv) (by simp; omega))) ?_
              rintro _ _ ⟨rfl, rfl⟩
              refine ⟨.inr (by (refine Ent.imp ?_; repeat first | exact Imp.refl _ | exact Imp.nil _ | (apply Imp.pull; focus ((repeat first | exact Del.head _ _ | apply Del.tail); done)) | (apply Imp.row; focus ((repeat first | exact Del.head _ _ | apply Del.tail); done)) | apply Imp.drop)), ?_⟩
              refine TR.p 6 rfl (by kernel_rfl) (DP.to (v' := .bool (decide (s.take 6 ≠ hdE))) (DP.neOf rfl rfl eg74 (fun w => eqBytes Tryd.underlying74 Tryd.underlying5 pl5 sz5 (by simp; omega) rfl w)) (by simp)) ?_
              refine TR.pB 7 rfl (by kernel_rfl) (DP.mv (by conv => lhs; whnf)) (fun hg33 => ?_) (fun hg33 => ?_)
              · refine TR.off 8 rfl (by kernel_rfl) rfl rfl ?_
                refine TR.off 9 rfl (by kernel_rfl) rfl rfl ?_
                refine TR.off 10 rfl (by kernel_rfl) rfl rfl ?_
                refine TR.p 11 rfl (by kernel_rfl) (DP.pkT rfl (by conv => lhs; whnf)) ?_
                refine TR.done (by kernel_rfl) ?_
                refine TQ.nn ?_
                refine T.condT rfl ?_
                refine T.seq ?_
                refine T.reg ?_
                refine TO.p (DP.bdL (vs := []) (us := arV ar0) trivial pc34 zr34 rfl) ?_
                refine TO.n0 (N.stA (vs := arV ar0) rfl rfl sz34 (by (repeat first | exact Put.head _ _ _ | apply Put.tail)) (by simp [frV, arV, fr0, ar0]) (by simp [frV, arV, fr0, ar0, str, Value.oneCell']) (by rfl)) ?_
                rintro _ _ ⟨rfl, rfl⟩
                rw [show setAll _ 0 (arV ar0) = arV ar0 from rfl]
                refine TO.p (DP.as (by conv => lhs; whnf)) ?_
                refine TO.nil ?_
                refine TQ.nn ?_
                refine T.ret ?_
                refine TQ.nr ?_
                rw [decA_bad s hc0 (fun h5 => hg33 h5.1)]
                refine TQ.ret (vs := [.agg (arV ar0).toArray, .int .i64 (8 : Nat)]) (L' := []) rfl ⟨RV.atA rfl ag34 sz34 (by (repeat first | exact LMem.head _ _ | apply LMem.tail)) rfl, rfl, rfl⟩ ⟨rfl, rfl⟩ (by (refine Ent.imp ?_; repeat first | exact Imp.refl _ | exact Imp.nil _ | (apply Imp.pull; focus ((repeat first | exact Del.head _ _ | apply Del.tail); done)) | (apply Imp.row; focus ((repeat first | exact Del.head _ _ | apply Del.tail); done)) | apply Imp.drop))
              · refine TR.don 8 rfl (by kernel_rfl) (by kernel_rfl) (by (refine Ent.imp ?_; repeat first | exact Imp.refl _ | exact Imp.nil _ | (apply Imp.pull; focus ((repeat first | exact Del.head _ _ | apply Del.tail); done)) | (apply Imp.row; focus ((repeat first | exact Del.head _ _ | apply Del.tail); done)) | apply Imp.drop)) rfl (D.ldRA (cs := arV (arOf s)) rfl ag34 sz34 (by (repeat first | exact LMem.head _ _ | apply LMem.tail)) rfl) ?_
                refine TR.non 9 (by kernel_rfl) rfl rfl (N.callF (may_spec (arOf s)) Tryd.call33 ⟨rfl, trivial⟩ (by (repeat first | exact Pick.nil _ | (apply Pick.cons; focus ((repeat first | exact Del.head _ _ | apply Del.tail); done))))) ?_
                rintro u35 _ ⟨_, ⟨rfl, rfl⟩, rfl⟩
                try simp only [List.cons_append, List.nil_append]
                refine ⟨.inl rfl, ?_⟩
                refine TR.pon 10 rfl (by kernel_rfl) rfl (DP.not rfl) ?_
                refine TR.p 11 rfl (by kernel_rfl) (DP.pkF rfl (by conv => lhs; whnf)) ?_
                refine TR.done (by kernel_rfl) ?_
                refine TQ.nn ?_
                refine T.condB rfl (fun hc1 => ?_) (fun hc1 => ?_)
                · refine T.seq ?_
                  refine T.reg ?_
                  refine TO.p (DP.bdL (vs := []) (us := arV ar0) trivial pc34 zr34 rfl) ?_
                  refine TO.n0 (N.stA (vs := arV ar0) rfl rfl sz34 (by (repeat first | exact Put.head _ _ _ | apply Put.tail)) (by simp [frV, arV, fr0, ar0]) (by simp [frV, arV, fr0, ar0, str, Value.oneCell']) (by rfl)) ?_
                  rintro _ _ ⟨rfl, rfl⟩
                  rw [show setAll _ 0 (arV ar0) = arV ar0 from rfl]
                  refine TO.p (DP.as (by conv => lhs; whnf)) ?_
                  refine TO.nil ?_
                  refine TQ.nn ?_
                  refine T.ret ?_
                  refine TQ.nr ?_
                  rw [decA_bad s hc0 (fun h5 => by rw [h5.2] at hc1; cases hc1)]
                  refine TQ.ret (vs := [.agg (arV ar0).toArray, .int .i64 (8 : Nat)]) (L' := []) rfl ⟨RV.atA rfl ag34 sz34 (by (repeat first | exact LMem.head _ _ | apply LMem.tail)) rfl, rfl, rfl⟩ ⟨rfl, rfl⟩ (by (refine Ent.imp ?_; repeat first | exact Imp.refl _ | exact Imp.nil _ | (apply Imp.pull; focus ((repeat first | exact Del.head _ _ | apply Del.tail); done)) | (apply Imp.row; focus ((repeat first | exact Del.head _ _ | apply Del.tail); done)) | apply Imp.drop))
                · refine T.skip ?_
                  refine TQ.nn ?_
                  refine T.seq ?_
                  refine T.reg ?_
                  refine TO.d (D.ldRA (cs := arV (arOf s)) rfl ag34 sz34 (by (repeat first | exact LMem.head _ _ | apply LMem.tail)) rfl) ?_
                  refine TO.n0 (N.stA (vs := arV (arOf s)) rfl rfl sz34 (by (repeat first | exact Put.head _ _ _ | apply Put.tail)) (by simp [frV, arV, fr0, ar0]) (by simp [frV, arV, fr0, ar0, str, Value.oneCell']) (by rfl)) ?_
                  rintro _ _ ⟨rfl, rfl⟩
                  rw [show setAll _ 0 (arV (arOf s)) = arV (arOf s) from rfl]
                  refine TO.p (DP.as (by conv => lhs; whnf)) ?_
                  refine TO.nil ?_
                  refine TQ.nn ?_
                  refine T.ret ?_
                  rw [decA_ok s hc0 (Decidable.not_not.1 hg33) (by simpa using hc1)]
                  refine TQ.ret (vs := [.agg (arV (arOf s)).toArray, .int .i64 (0 : Nat)]) (L' := []) rfl ⟨RV.atA rfl ag34 sz34 (by (repeat first | exact LMem.head _ _ | apply LMem.tail)) rfl, rfl, rfl⟩ ⟨rfl, rfl⟩ (by (refine Ent.imp ?_; repeat first | exact Imp.refl _ | exact Imp.nil _ | (apply Imp.pull; focus ((repeat first | exact Del.head _ _ | apply Del.tail); done)) | (apply Imp.row; focus ((repeat first | exact Del.head _ _ | apply Del.tail); done)) | apply Imp.drop))
          · rintro u31 _ ⟨_, ⟨rfl, rfl⟩, rfl⟩
            try simp only [List.cons_append, List.nil_append]
            refine ⟨.inr (by (refine Ent.imp ?_; repeat first | exact Imp.refl _ | exact Imp.nil _ | (apply Imp.pull; focus ((repeat first | exact Del.head _ _ | apply Del.tail); done)) | (apply Imp.row; focus ((repeat first | exact Del.head _ _ | apply Del.tail); done)) | apply Imp.drop)), ?_⟩
            refine TR.n 2 (by kernel_rfl) rfl (N.csb rfl Tryd.underlying9 Tryd.underlying60 Tryd.underlying5) ?_
            rintro _ _ ⟨b28, r28, rfl, rfl⟩
            refine ⟨.inr (by (refine Ent.imp ?_; repeat first | exact Imp.refl _ | exact Imp.nil _ | (apply Imp.pull; focus ((repeat first | exact Del.head _ _ | apply Del.tail); done)) | (apply Imp.row; focus ((repeat first | exact Del.head _ _ | apply Del.tail); done)) | apply Imp.drop)), ?_⟩
            refine TR.p 3 rfl (by kernel_rfl) (DP.s2a rfl Tryd.underlying74 (by simp; omega)) ?_
            refine TR.n 4 (by kernel_rfl) rfl (D.n (D.ldRM (vs := (s.take 6).map byteV) rfl ag74 sz74 (by (repeat first | exact LMem.head _ _ | apply LMem.tail)) (fun i v hv => by rw [Nat.zero_add, List.getElem?_append_left (by rcases Nat.lt_or_ge i ((s.take 6).map byteV).length with h | h; exact h; rw [List.getElem?_eq_none h] at hv; cases hv)]; exact hv) (by simp; omega))) ?_
            rintro _ _ ⟨rfl, rfl⟩
            refine ⟨.inr (by (refine Ent.imp ?_; repeat first | exact Imp.refl _ | exact Imp.nil _ | (apply Imp.pull; focus ((repeat first | exact Del.head _ _ | apply Del.tail); done)) | (apply Imp.row; focus ((repeat first | exact Del.head _ _ | apply Del.tail); done)) | apply Imp.drop)), ?_⟩
            refine TR.p 6 rfl (by kernel_rfl) (DP.to (v' := .bool (decide (s.take 6 ≠ hdE))) (DP.neOf rfl rfl eg74 (fun w => eqBytes Tryd.underlying74 Tryd.underlying5 pl5 sz5 (by simp; omega) rfl w)) (by simp)) ?_
            refine TR.pB 7 rfl (by kernel_rfl) (DP.mv (by conv => lhs; whnf)) (fun hg33 => ?_) (fun hg33 => ?_)
            · refine TR.off 8 rfl (by kernel_rfl) rfl rfl ?_
              refine TR.off 9 rfl (by kernel_rfl) rfl rfl ?_
              refine TR.off 10 rfl (by kernel_rfl) rfl rfl ?_
              refine TR.p 11 rfl (by kernel_rfl) (DP.pkT rfl (by conv => lhs; whnf)) ?_
              refine TR.done (by kernel_rfl) ?_
              refine TQ.nn ?_
              refine T.condT rfl ?_
              refine T.seq ?_
              refine T.reg ?_
              refine TO.p (DP.bdL (vs := []) (us := arV ar0) trivial pc34 zr34 rfl) ?_
              refine TO.n0 (N.stA (vs := arV ar0) rfl rfl sz34 (by (repeat first | exact Put.head _ _ _ | apply Put.tail)) (by simp [frV, arV, fr0, ar0]) (by simp [frV, arV, fr0, ar0, str, Value.oneCell']) (by rfl)) ?_
              rintro _ _ ⟨rfl, rfl⟩
              rw [show setAll _ 0 (arV ar0) = arV ar0 from rfl]
              refine TO.p (DP.as (by conv => lhs; whnf)) ?_
              refine TO.nil ?_
              refine TQ.nn ?_
              refine T.ret ?_
              refine TQ.nr ?_
              rw [decA_bad s hc0 (fun h5 => hg33 h5.1)]
              refine TQ.ret (vs := [.agg (arV ar0).toArray, .int .i64 (8 : Nat)]) (L' := []) rfl ⟨RV.atA rfl ag34 sz34 (by (repeat first | exact LMem.head _ _ | apply LMem.tail)) rfl, rfl, rfl⟩ ⟨rfl, rfl⟩ (by (refine Ent.imp ?_; repeat first | exact Imp.refl _ | exact Imp.nil _ | (apply Imp.pull; focus ((repeat first | exact Del.head _ _ | apply Del.tail); done)) | (apply Imp.row; focus ((repeat first | exact Del.head _ _ | apply Del.tail); done)) | apply Imp.drop))
            · refine TR.don 8 rfl (by kernel_rfl) (by kernel_rfl) (by (refine Ent.imp ?_; repeat first | exact Imp.refl _ | exact Imp.nil _ | (apply Imp.pull; focus ((repeat first | exact Del.head _ _ | apply Del.tail); done)) | (apply Imp.row; focus ((repeat first | exact Del.head _ _ | apply Del.tail); done)) | apply Imp.drop)) rfl (D.ldRA (cs := arV (arOf s)) rfl ag34 sz34 (by (repeat first | exact LMem.head _ _ | apply LMem.tail)) rfl) ?_
              refine TR.non 9 (by kernel_rfl) rfl rfl (N.callF (may_spec (arOf s)) Tryd.call33 ⟨rfl, trivial⟩ (by (repeat first | exact Pick.nil _ | (apply Pick.cons; focus ((repeat first | exact Del.head _ _ | apply Del.tail); done))))) ?_
              rintro u35 _ ⟨_, ⟨rfl, rfl⟩, rfl⟩
              try simp only [List.cons_append, List.nil_append]
              refine ⟨.inl rfl, ?_⟩
              refine TR.pon 10 rfl (by kernel_rfl) rfl (DP.not rfl) ?_
              refine TR.p 11 rfl (by kernel_rfl) (DP.pkF rfl (by conv => lhs; whnf)) ?_
              refine TR.done (by kernel_rfl) ?_
              refine TQ.nn ?_
              refine T.condB rfl (fun hc1 => ?_) (fun hc1 => ?_)
              · refine T.seq ?_
                refine T.reg ?_
                refine TO.p (DP.bdL (vs := []) (us := arV ar0) trivial pc34 zr34 rfl) ?_
                refine TO.n0 (N.stA (vs := arV ar0) rfl rfl sz34 (by (repeat first | exact Put.head _ _ _ | apply Put.tail)) (by simp [frV, arV, fr0, ar0]) (by simp [frV, arV, fr0, ar0, str, Value.oneCell']) (by rfl)) ?_
                rintro _ _ ⟨rfl, rfl⟩
                rw [show setAll _ 0 (arV ar0) = arV ar0 from rfl]
                refine TO.p (DP.as (by conv => lhs; whnf)) ?_
                refine TO.nil ?_
                refine TQ.nn ?_
                refine T.ret ?_
                refine TQ.nr ?_
                rw [decA_bad s hc0 (fun h5 => by rw [h5.2] at hc1; cases hc1)]
                refine TQ.ret (vs := [.agg (arV ar0).toArray, .int .i64 (8 : Nat)]) (L' := []) rfl ⟨RV.atA rfl ag34 sz34 (by (repeat first | exact LMem.head _ _ | apply LMem.tail)) rfl, rfl, rfl⟩ ⟨rfl, rfl⟩ (by (refine Ent.imp ?_; repeat first | exact Imp.refl _ | exact Imp.nil _ | (apply Imp.pull; focus ((repeat first | exact Del.head _ _ | apply Del.tail); done)) | (apply Imp.row; focus ((repeat first | exact Del.head _ _ | apply Del.tail); done)) | apply Imp.drop))
              · refine T.skip ?_
                refine TQ.nn ?_
                refine T.seq ?_
                refine T.reg ?_
                refine TO.d (D.ldRA (cs := arV (arOf s)) rfl ag34 sz34 (by (repeat first | exact LMem.head _ _ | apply LMem.tail)) rfl) ?_
                refine TO.n0 (N.stA (vs := arV (arOf s)) rfl rfl sz34 (by (repeat first | exact Put.head _ _ _ | apply Put.tail)) (by simp [frV, arV, fr0, ar0]) (by simp [frV, arV, fr0, ar0, str, Value.oneCell']) (by rfl)) ?_
                rintro _ _ ⟨rfl, rfl⟩
                rw [show setAll _ 0 (arV (arOf s)) = arV (arOf s) from rfl]
                refine TO.p (DP.as (by conv => lhs; whnf)) ?_
                refine TO.nil ?_
                refine TQ.nn ?_
                refine T.ret ?_
                rw [decA_ok s hc0 (Decidable.not_not.1 hg33) (by simpa using hc1)]
                refine TQ.ret (vs := [.agg (arV (arOf s)).toArray, .int .i64 (0 : Nat)]) (L' := []) rfl ⟨RV.atA rfl ag34 sz34 (by (repeat first | exact LMem.head _ _ | apply LMem.tail)) rfl, rfl, rfl⟩ ⟨rfl, rfl⟩ (by (refine Ent.imp ?_; repeat first | exact Imp.refl _ | exact Imp.nil _ | (apply Imp.pull; focus ((repeat first | exact Del.head _ _ | apply Del.tail); done)) | (apply Imp.row; focus ((repeat first | exact Del.head _ _ | apply Del.tail); done)) | apply Imp.drop))
        · rintro _ _ ⟨b4, rfl, rfl⟩
          refine ⟨.inl rfl, ?_⟩
          refine TR.n 14 (by kernel_rfl) rfl (N.callF (value_spec ((s.take 28).drop 24) (by simp; omega)) Tryd.call44 ⟨rfl, trivial⟩ (by (repeat first | exact Pick.nil _ | (apply Pick.cons; focus ((repeat first | exact Del.head _ _ | apply Del.tail); done))))) ?_
          rintro u23 _ ⟨_, ⟨rfl, rfl⟩, rfl⟩
          try simp only [List.cons_append, List.nil_append]
          refine ⟨.inl rfl, ?_⟩
          refine TR.p 15 rfl (by kernel_rfl) (DP.to (v' := .int .u32 (valE ((s.take 28).drop 24) % 4294967296 : Nat)) (DP.cvW rfl is31 Tryd.underlying26 rfl (l := 4294967296) rfl) rfl) ?_
          refine TR.p 16 rfl (by kernel_rfl) (DP.bdL (vs := [(0, _), (1, _), (2, _), (3, _), (4, _)]) (us := arV (arOf s)) ⟨rfl, rfl, rfl, rfl, rfl, rfl, rfl, rfl, rfl, rfl, trivial⟩ pc34 zr34 rfl) ?_
          refine TR.n0 18 (by kernel_rfl) rfl (N.stA (vs := arV (arOf s)) rfl rfl sz34 (by (repeat first | exact Put.head _ _ _ | apply Put.tail)) (by simp [frV, arV, fr0, ar0]) (by simp [frV, arV, fr0, ar0, str, Value.oneCell']) (by rfl)) ?_
          rintro _ _ ⟨rfl, rfl⟩
          rw [show setAll _ 0 (arV (arOf s)) = arV (arOf s) from rfl]
          refine ⟨.inl rfl, ?_⟩
          refine TR.done (by kernel_rfl) ?_
          refine TQ.nn ?_
          refine T.seq ?_
          refine T.seq ?_
          refine T.drawL [9] mixed (by repeat first | exact Calm.rt | apply Calm.t | apply Calm.b | apply Calm.l | apply Calm.ct) ?_
          refine TR.p 0 rfl (by kernel_rfl) (DP.mv (by conv => lhs; whnf)) ?_
          refine TR.p 1 rfl (by kernel_rfl) (DP.slTh (j := 6) rfl rfl Tryd.underlying9 (by omega)) ?_
          refine TR.two 2 5 (by kernel_rfl) rfl (N.csb rfl Tryd.underlying9 Tryd.underlying60 Tryd.underlying5) rfl (N.callF (first_spec) Tryd.call42 trivial (by (repeat first | exact Pick.nil _ | (apply Pick.cons; focus ((repeat first | exact Del.head _ _ | apply Del.tail); done))))) ?_ ?_
          · rintro _ _ ⟨b28, r28, rfl, rfl⟩
            refine ⟨.inr (by (refine Ent.imp ?_; repeat first | exact Imp.refl _ | exact Imp.nil _ | (apply Imp.pull; focus ((repeat first | exact Del.head _ _ | apply Del.tail); done)) | (apply Imp.row; focus ((repeat first | exact Del.head _ _ | apply Del.tail); done)) | apply Imp.drop)), ?_⟩
            refine TR.p 3 rfl (by kernel_rfl) (DP.s2a rfl Tryd.underlying74 (by simp; omega)) ?_
            refine TR.two 4 5 (by kernel_rfl) rfl (D.n (D.ldRM (vs := (s.take 6).map byteV) rfl ag74 sz74 (by (repeat first | exact LMem.head _ _ | apply LMem.tail)) (fun i v hv => by rw [Nat.zero_add, List.getElem?_append_left (by rcases Nat.lt_or_ge i ((s.take 6).map byteV).length with h | h; exact h; rw [List.getElem?_eq_none h] at hv; cases hv)]; exact hv) (by simp; omega))) rfl (N.callF (first_spec) Tryd.call42 trivial (by (repeat first | exact Pick.nil _ | (apply Pick.cons; focus ((repeat first | exact Del.head _ _ | apply Del.tail); done))))) ?_ ?_
            · rintro _ _ ⟨rfl, rfl⟩
              refine ⟨.inr (by (refine Ent.imp ?_; repeat first | exact Imp.refl _ | exact Imp.nil _ | (apply Imp.pull; focus ((repeat first | exact Del.head _ _ | apply Del.tail); done)) | (apply Imp.row; focus ((repeat first | exact Del.head _ _ | apply Del.tail); done)) | apply Imp.drop)), ?_⟩
              refine TR.n 5 (by kernel_rfl) rfl (N.callF (first_spec) Tryd.call42 trivial (by (repeat first | exact Pick.nil _ | (apply Pick.cons; focus ((repeat first | exact Del.head _ _ | apply Del.tail); done))))) ?_
              rintro u31 _ ⟨_, ⟨rfl, rfl⟩, rfl⟩
              try simp only [List.cons_append, List.nil_append]
              refine ⟨.inr (by (refine Ent.imp ?_; repeat first | exact Imp.refl _ | exact Imp.nil _ | (apply Imp.pull; focus ((repeat first | exact Del.head _ _ | apply Del.tail); done)) | (apply Imp.row; focus ((repeat first | exact Del.head _ _ | apply Del.tail); done)) | apply Imp.drop)), ?_⟩
              refine TR.p 6 rfl (by kernel_rfl) (DP.to (v' := .bool (decide (s.take 6 ≠ hdE))) (DP.neOf rfl rfl eg74 (fun w => eqBytes Tryd.underlying74 Tryd.underlying5 pl5 sz5 (by simp; omega) rfl w)) (by simp)) ?_
              refine TR.pB 7 rfl (by kernel_rfl) (DP.mv (by conv => lhs; whnf)) (fun hg33 => ?_) (fun hg33 => ?_)
              · refine TR.off 8 rfl (by kernel_rfl) rfl rfl ?_
                refine TR.off 9 rfl (by kernel_rfl) rfl rfl ?_
                refine TR.off 10 rfl (by kernel_rfl) rfl rfl ?_
                refine TR.p 11 rfl (by kernel_rfl) (DP.pkT rfl (by conv => lhs; whnf)) ?_
                refine TR.done (by kernel_rfl) ?_
                refine TQ.nn ?_
                refine T.condT rfl ?_
                refine T.seq ?_
                refine T.reg ?_
                refine TO.p (DP.bdL (vs := []) (us := arV ar0) trivial pc34 zr34 rfl) ?_
                refine TO.n0 (N.stA (vs := arV ar0) rfl rfl sz34 (by (repeat first | exact Put.head _ _ _ | apply Put.tail)) (by simp [frV, arV, fr0, ar0]) (by simp [frV, arV, fr0, ar0, str, Value.oneCell']) (by rfl)) ?_
                rintro _ _ ⟨rfl, rfl⟩
                rw [show setAll _ 0 (arV ar0) = arV ar0 from rfl]
                refine TO.p (DP.as (by conv => lhs; whnf)) ?_
                refine TO.nil ?_
                refine TQ.nn ?_
                refine T.ret ?_
                refine TQ.nr ?_
                rw [decA_bad s hc0 (fun h5 => hg33 h5.1)]
                refine TQ.ret (vs := [.agg (arV ar0).toArray, .int .i64 (8 : Nat)]) (L' := []) rfl ⟨RV.atA rfl ag34 sz34 (by (repeat first | exact LMem.head _ _ | apply LMem.tail)) rfl, rfl, rfl⟩ ⟨rfl, rfl⟩ (by (refine Ent.imp ?_; repeat first | exact Imp.refl _ | exact Imp.nil _ | (apply Imp.pull; focus ((repeat first | exact Del.head _ _ | apply Del.tail); done)) | (apply Imp.row; focus ((repeat first | exact Del.head _ _ | apply Del.tail); done)) | apply Imp.drop))
              · refine TR.don 8 rfl (by kernel_rfl) (by kernel_rfl) (by (refine Ent.imp ?_; repeat first | exact Imp.refl _ | exact Imp.nil _ | (apply Imp.pull; focus ((repeat first | exact Del.head _ _ | apply Del.tail); done)) | (apply Imp.row; focus ((repeat first | exact Del.head _ _ | apply Del.tail); done)) | apply Imp.drop)) rfl (D.ldRA (cs := arV (arOf s)) rfl ag34 sz34 (by (repeat first | exact LMem.head _ _ | apply LMem.tail)) rfl) ?_
                refine TR.non 9 (by kernel_rfl) rfl rfl (N.callF (may_spec (arOf s)) Tryd.call33 ⟨rfl, trivial⟩ (by (repeat first | exact Pick.nil _ | (apply Pick.cons; focus ((repeat first | exact Del.head _ _ | apply Del.tail); done))))) ?_
                rintro u35 _ ⟨_, ⟨rfl, rfl⟩, rfl⟩
                try simp only [List.cons_append, List.nil_append]
                refine ⟨.inl rfl, ?_⟩
                refine TR.pon 10 rfl (by kernel_rfl) rfl (DP.not rfl) ?_
                refine TR.p 11 rfl (by kernel_rfl) (DP.pkF rfl (by conv => lhs; whnf)) ?_
                refine TR.done (by kernel_rfl) ?_
                refine TQ.nn ?_
                refine T.condB rfl (fun hc1 => ?_) (fun hc1 => ?_)
                · refine T.seq ?_
                  refine T.reg ?_
                  refine TO.p (DP.bdL (vs := []) (us := arV ar0) trivial pc34 zr34 rfl) ?_
                  refine TO.n0 (N.stA (vs := arV ar0) rfl rfl sz34 (by (repeat first | exact Put.head _ _ _ | apply Put.tail)) (by simp [frV, arV, fr0, ar0]) (by simp [frV, arV, fr0, ar0, str, Value.oneCell']) (by rfl)) ?_
                  rintro _ _ ⟨rfl, rfl⟩
                  rw [show setAll _ 0 (arV ar0) = arV ar0 from rfl]
                  refine TO.p (DP.as (by conv => lhs; whnf)) ?_
                  refine TO.nil ?_
                  refine TQ.nn ?_
                  refine T.ret ?_
                  refine TQ.nr ?_
                  rw [decA_bad s hc0 (fun h5 => by rw [h5.2] at hc1; cases hc1)]
                  refine TQ.ret (vs := [.agg (arV ar0).toArray, .int .i64 (8 : Nat)]) (L' := []) rfl ⟨RV.atA rfl ag34 sz34 (by (repeat first | exact LMem.head _ _ | apply LMem.tail)) rfl, rfl, rfl⟩ ⟨rfl, rfl⟩ (by (refine Ent.imp ?_; repeat first | exact Imp.refl _ | exact Imp.nil _ | (apply Imp.pull; focus ((repeat first | exact Del.head _ _ | apply Del.tail); done)) | (apply Imp.row; focus ((repeat first | exact Del.head _ _ | apply Del.tail); done)) | apply Imp.drop))
                · refine T.skip ?_
                  refine TQ.nn ?_
                  refine T.seq ?_
                  refine T.reg ?_
                  refine TO.d (D.ldRA (cs := arV (arOf s)) rfl ag34 sz34 (by (repeat first | exact LMem.head _ _ | apply LMem.tail)) rfl) ?_
                  refine TO.n0 (N.stA (vs := arV (arOf s)) rfl rfl sz34 (by (repeat first | exact Put.head _ _ _ | apply Put.tail)) (by simp [frV, arV, fr0, ar0]) (by simp [frV, arV, fr0, ar0, str, Value.oneCell']) (by rfl)) ?_
                  rintro _ _ ⟨rfl, rfl⟩
                  rw [show setAll _ 0 (arV (arOf s)) = arV (arOf s) from rfl]
                  refine TO.p (DP.as (by conv => lhs; whnf)) ?_
                  refine TO.nil ?_
                  refine TQ.nn ?_
                  refine T.ret ?_
                  rw [decA_ok s hc0 (Decidable.not_not.1 hg33) (by simpa using hc1)]
                  refine TQ.ret (vs := [.agg (arV (arOf s)).toArray, .int .i64 (0 : Nat)]) (L' := []) rfl ⟨RV.atA rfl ag34 sz34 (by (repeat first | exact LMem.head _ _ | apply LMem.tail)) rfl, rfl, rfl⟩ ⟨rfl, rfl⟩ (by (refine Ent.imp ?_; repeat first | exact Imp.refl _ | exact Imp.nil _ | (apply Imp.pull; focus ((repeat first | exact Del.head _ _ | apply Del.tail); done)) | (apply Imp.row; focus ((repeat first | exact Del.head _ _ | apply Del.tail); done)) | apply Imp.drop))
            · rintro u31 _ ⟨_, ⟨rfl, rfl⟩, rfl⟩
              try simp only [List.cons_append, List.nil_append]
              refine ⟨.inr (by (refine Ent.imp ?_; repeat first | exact Imp.refl _ | exact Imp.nil _ | (apply Imp.pull; focus ((repeat first | exact Del.head _ _ | apply Del.tail); done)) | (apply Imp.row; focus ((repeat first | exact Del.head _ _ | apply Del.tail); done)) | apply Imp.drop)), ?_⟩
              refine TR.n 4 (by kernel_rfl) rfl (D.n (D.ldRM (vs := (s.take 6).map byteV) rfl ag74 sz74 (by (repeat first | exact LMem.head _ _ | apply LMem.tail)) (fun i v hv => by rw [Nat.zero_add, List.getElem?_append_left (by rcases Nat.lt_or_ge i ((s.take 6).map byteV).length with h | h; exact h; rw [List.getElem?_eq_none h] at hv; cases hv)]; exact hv) (by simp; omega))) ?_
              rintro _ _ ⟨rfl, rfl⟩
              refine ⟨.inr (by (refine Ent.imp ?_; repeat first | exact Imp.refl _ | exact Imp.nil _ | (apply Imp.pull; focus ((repeat first | exact Del.head _ _ | apply Del.tail); done)) | (apply Imp.row; focus ((repeat first | exact Del.head _ _ | apply Del.tail); done)) | apply Imp.drop)), ?_⟩
              refine TR.p 6 rfl (by kernel_rfl) (DP.to (v' := .bool (decide (s.take 6 ≠ hdE))) (DP.neOf rfl rfl eg74 (fun w => eqBytes Tryd.underlying74 Tryd.underlying5 pl5 sz5 (by simp; omega) rfl w)) (by simp)) ?_
              refine TR.pB 7 rfl (by kernel_rfl) (DP.mv (by conv => lhs; whnf)) (fun hg33 => ?_) (fun hg33 => ?_)
              · refine TR.off 8 rfl (by kernel_rfl) rfl rfl ?_
                refine TR.off 9 rfl (by kernel_rfl) rfl rfl ?_
                refine TR.off 10 rfl (by kernel_rfl) rfl rfl ?_
                refine TR.p 11 rfl (by kernel_rfl) (DP.pkT rfl (by conv => lhs; whnf)) ?_
                refine TR.done (by kernel_rfl) ?_
                refine TQ.nn ?_
                refine T.condT rfl ?_
                refine T.seq ?_
                refine T.reg ?_
                refine TO.p (DP.bdL (vs := []) (us := arV ar0) trivial pc34 zr34 rfl) ?_
                refine TO.n0 (N.stA (vs := arV ar0) rfl rfl sz34 (by (repeat first | exact Put.head _ _ _ | apply Put.tail)) (by simp [frV, arV, fr0, ar0]) (by simp [frV, arV, fr0, ar0, str, Value.oneCell']) (by rfl)) ?_
                rintro _ _ ⟨rfl, rfl⟩
                rw [show setAll _ 0 (arV ar0) = arV ar0 from rfl]
                refine TO.p (DP.as (by conv => lhs; whnf)) ?_
                refine TO.nil ?_
                refine TQ.nn ?_
                refine T.ret ?_
                refine TQ.nr ?_
                rw [decA_bad s hc0 (fun h5 => hg33 h5.1)]
                refine TQ.ret (vs := [.agg (arV ar0).toArray, .int .i64 (8 : Nat)]) (L' := []) rfl ⟨RV.atA rfl ag34 sz34 (by (repeat first | exact LMem.head _ _ | apply LMem.tail)) rfl, rfl, rfl⟩ ⟨rfl, rfl⟩ (by (refine Ent.imp ?_; repeat first | exact Imp.refl _ | exact Imp.nil _ | (apply Imp.pull; focus ((repeat first | exact Del.head _ _ | apply Del.tail); done)) | (apply Imp.row; focus ((repeat first | exact Del.head _ _ | apply Del.tail); done)) | apply Imp.drop))
              · refine TR.don 8 rfl (by kernel_rfl) (by kernel_rfl) (by (refine Ent.imp ?_; repeat first | exact Imp.refl _ | exact Imp.nil _ | (apply Imp.pull; focus ((repeat first | exact Del.head _ _ | apply Del.tail); done)) | (apply Imp.row; focus ((repeat first | exact Del.head _ _ | apply Del.tail); done)) | apply Imp.drop)) rfl (D.ldRA (cs := arV (arOf s)) rfl ag34 sz34 (by (repeat first | exact LMem.head _ _ | apply LMem.tail)) rfl) ?_
                refine TR.non 9 (by kernel_rfl) rfl rfl (N.callF (may_spec (arOf s)) Tryd.call33 ⟨rfl, trivial⟩ (by (repeat first | exact Pick.nil _ | (apply Pick.cons; focus ((repeat first | exact Del.head _ _ | apply Del.tail); done))))) ?_
                rintro u35 _ ⟨_, ⟨rfl, rfl⟩, rfl⟩
                try simp only [List.cons_append, List.nil_append]
                refine ⟨.inl rfl, ?_⟩
                refine TR.pon 10 rfl (by kernel_rfl) rfl (DP.not rfl) ?_
                refine TR.p 11 rfl (by kernel_rfl) (DP.pkF rfl (by conv => lhs; whnf)) ?_
                refine TR.done (by kernel_rfl) ?_
                refine TQ.nn ?_
                refine T.condB rfl (fun hc1 => ?_) (fun hc1 => ?_)
                · refine T.seq ?_
                  refine T.reg ?_
                  refine TO.p (DP.bdL (vs := []) (us := arV ar0) trivial pc34 zr34 rfl) ?_
                  refine TO.n0 (N.stA (vs := arV ar0) rfl rfl sz34 (by (repeat first | exact Put.head _ _ _ | apply Put.tail)) (by simp [frV, arV, fr0, ar0]) (by simp [frV, arV, fr0, ar0, str, Value.oneCell']) (by rfl)) ?_
                  rintro _ _ ⟨rfl, rfl⟩
                  rw [show setAll _ 0 (arV ar0) = arV ar0 from rfl]
                  refine TO.p (DP.as (by conv => lhs; whnf)) ?_
                  refine TO.nil ?_
                  refine TQ.nn ?_
                  refine T.ret ?_
                  refine TQ.nr ?_
                  rw [decA_bad s hc0 (fun h5 => by rw [h5.2] at hc1; cases hc1)]
                  refine TQ.ret (vs := [.agg (arV ar0).toArray, .int .i64 (8 : Nat)]) (L' := []) rfl ⟨RV.atA rfl ag34 sz34 (by (repeat first | exact LMem.head _ _ | apply LMem.tail)) rfl, rfl, rfl⟩ ⟨rfl, rfl⟩ (by (refine Ent.imp ?_; repeat first | exact Imp.refl _ | exact Imp.nil _ | (apply Imp.pull; focus ((repeat first | exact Del.head _ _ | apply Del.tail); done)) | (apply Imp.row; focus ((repeat first | exact Del.head _ _ | apply Del.tail); done)) | apply Imp.drop))
                · refine T.skip ?_
                  refine TQ.nn ?_
                  refine T.seq ?_
                  refine T.reg ?_
                  refine TO.d (D.ldRA (cs := arV (arOf s)) rfl ag34 sz34 (by (repeat first | exact LMem.head _ _ | apply LMem.tail)) rfl) ?_
                  refine TO.n0 (N.stA (vs := arV (arOf s)) rfl rfl sz34 (by (repeat first | exact Put.head _ _ _ | apply Put.tail)) (by simp [frV, arV, fr0, ar0]) (by simp [frV, arV, fr0, ar0, str, Value.oneCell']) (by rfl)) ?_
                  rintro _ _ ⟨rfl, rfl⟩
                  rw [show setAll _ 0 (arV (arOf s)) = arV (arOf s) from rfl]
                  refine TO.p (DP.as (by conv => lhs; whnf)) ?_
                  refine TO.nil ?_
                  refine TQ.nn ?_
                  refine T.ret ?_
                  rw [decA_ok s hc0 (Decidable.not_not.1 hg33) (by simpa using hc1)]
                  refine TQ.ret (vs := [.agg (arV (arOf s)).toArray, .int .i64 (0 : Nat)]) (L' := []) rfl ⟨RV.atA rfl ag34 sz34 (by (repeat first | exact LMem.head _ _ | apply LMem.tail)) rfl, rfl, rfl⟩ ⟨rfl, rfl⟩ (by (refine Ent.imp ?_; repeat first | exact Imp.refl _ | exact Imp.nil _ | (apply Imp.pull; focus ((repeat first | exact Del.head _ _ | apply Del.tail); done)) | (apply Imp.row; focus ((repeat first | exact Del.head _ _ | apply Del.tail); done)) | apply Imp.drop))
          · rintro u31 _ ⟨_, ⟨rfl, rfl⟩, rfl⟩
            try simp only [List.cons_append, List.nil_append]
            refine ⟨.inr (by (refine Ent.imp ?_; repeat first | exact Imp.refl _ | exact Imp.nil _ | (apply Imp.pull; focus ((repeat first | exact Del.head _ _ | apply Del.tail); done)) | (apply Imp.row; focus ((repeat first | exact Del.head _ _ | apply Del.tail); done)) | apply Imp.drop)), ?_⟩
            refine TR.n 2 (by kernel_rfl) rfl (N.csb rfl Tryd.underlying9 Tryd.underlying60 Tryd.underlying5) ?_
            rintro _ _ ⟨b28, r28, rfl, rfl⟩
            refine ⟨.inr (by (refine Ent.imp ?_; repeat first | exact Imp.refl _ | exact Imp.nil _ | (apply Imp.pull; focus ((repeat first | exact Del.head _ _ | apply Del.tail); done)) | (apply Imp.row; focus ((repeat first | exact Del.head _ _ | apply Del.tail); done)) | apply Imp.drop)), ?_⟩
            refine TR.p 3 rfl (by kernel_rfl) (DP.s2a rfl Tryd.underlying74 (by simp; omega)) ?_
            refine TR.n 4 (by kernel_rfl) rfl (D.n (D.ldRM (vs := (s.take 6).map byteV) rfl ag74 sz74 (by (repeat first | exact LMem.head _ _ | apply LMem.tail)) (fun i v hv => by rw [Nat.zero_add, List.getElem?_append_left (by rcases Nat.lt_or_ge i ((s.take 6).map byteV).length with h | h; exact h; rw [List.getElem?_eq_none h] at hv; cases hv)]; exact hv) (by simp; omega))) ?_
            rintro _ _ ⟨rfl, rfl⟩
            refine ⟨.inr (by (refine Ent.imp ?_; repeat first | exact Imp.refl _ | exact Imp.nil _ | (apply Imp.pull; focus ((repeat first | exact Del.head _ _ | apply Del.tail); done)) | (apply Imp.row; focus ((repeat first | exact Del.head _ _ | apply Del.tail); done)) | apply Imp.drop)), ?_⟩
            refine TR.p 6 rfl (by kernel_rfl) (DP.to (v' := .bool (decide (s.take 6 ≠ hdE))) (DP.neOf rfl rfl eg74 (fun w => eqBytes Tryd.underlying74 Tryd.underlying5 pl5 sz5 (by simp; omega) rfl w)) (by simp)) ?_
            refine TR.pB 7 rfl (by kernel_rfl) (DP.mv (by conv => lhs; whnf)) (fun hg33 => ?_) (fun hg33 => ?_)
            · refine TR.off 8 rfl (by kernel_rfl) rfl rfl ?_
              refine TR.off 9 rfl (by kernel_rfl) rfl rfl ?_
              refine TR.off 10 rfl (by kernel_rfl) rfl rfl ?_
              refine TR.p 11 rfl (by kernel_rfl) (DP.pkT rfl (by conv => lhs; whnf)) ?_
              refine TR.done (by kernel_rfl) ?_
              refine TQ.nn ?_
              refine T.condT rfl ?_
              refine T.seq ?_
              refine T.reg ?_
              refine TO.p (DP.bdL (vs := []) (us := arV ar0) trivial pc34 zr34 rfl) ?_
              refine TO.n0 (N.stA (vs := arV ar0) rfl rfl sz34 (by (repeat first | exact Put.head _ _ _ | apply Put.tail)) (by simp [frV, arV, fr0, ar0]) (by simp [frV, arV, fr0, ar0, str, Value.oneCell']) (by rfl)) ?_
              rintro _ _ ⟨rfl, rfl⟩
              rw [show setAll _ 0 (arV ar0) = arV ar0 from rfl]
              refine TO.p (DP.as (by conv => lhs; whnf)) ?_
              refine TO.nil ?_
              refine TQ.nn ?_
              refine T.ret ?_
              refine TQ.nr ?_
              rw [decA_bad s hc0 (fun h5 => hg33 h5.1)]
              refine TQ.ret (vs := [.agg (arV ar0).toArray, .int .i64 (8 : Nat)]) (L' := []) rfl ⟨RV.atA rfl ag34 sz34 (by (repeat first | exact LMem.head _ _ | apply LMem.tail)) rfl, rfl, rfl⟩ ⟨rfl, rfl⟩ (by (refine Ent.imp ?_; repeat first | exact Imp.refl _ | exact Imp.nil _ | (apply Imp.pull; focus ((repeat first | exact Del.head _ _ | apply Del.tail); done)) | (apply Imp.row; focus ((repeat first | exact Del.head _ _ | apply Del.tail); done)) | apply Imp.drop))
            · refine TR.don 8 rfl (by kernel_rfl) (by kernel_rfl) (by (refine Ent.imp ?_; repeat first | exact Imp.refl _ | exact Imp.nil _ | (apply Imp.pull; focus ((repeat first | exact Del.head _ _ | apply Del.tail); done)) | (apply Imp.row; focus ((repeat first | exact Del.head _ _ | apply Del.tail); done)) | apply Imp.drop)) rfl (D.ldRA (cs := arV (arOf s)) rfl ag34 sz34 (by (repeat first | exact LMem.head _ _ | apply LMem.tail)) rfl) ?_
              refine TR.non 9 (by kernel_rfl) rfl rfl (N.callF (may_spec (arOf s)) Tryd.call33 ⟨rfl, trivial⟩ (by (repeat first | exact Pick.nil _ | (apply Pick.cons; focus ((repeat first | exact Del.head _ _ | apply Del.tail); done))))) ?_
              rintro u35 _ ⟨_, ⟨rfl, rfl⟩, rfl⟩
              try simp only [List.cons_append, List.nil_append]
              refine ⟨.inl rfl, ?_⟩
              refine TR.pon 10 rfl (by kernel_rfl) rfl (DP.not rfl) ?_
              refine TR.p 11 rfl (by kernel_rfl) (DP.pkF rfl (by conv => lhs; whnf)) ?_
              refine TR.done (by kernel_rfl) ?_
              refine TQ.nn ?_
              refine T.condB rfl (fun hc1 => ?_) (fun hc1 => ?_)
              · refine T.seq ?_
                refine T.reg ?_
                refine TO.p (DP.bdL (vs := []) (us := arV ar0) trivial pc34 zr34 rfl) ?_
                refine TO.n0 (N.stA (vs := arV ar0) rfl rfl sz34 (by (repeat first | exact Put.head _ _ _ | apply Put.tail)) (by simp [frV, arV, fr0, ar0]) (by simp [frV, arV, fr0, ar0, str, Value.oneCell']) (by rfl)) ?_
                rintro _ _ ⟨rfl, rfl⟩
                rw [show setAll _ 0 (arV ar0) = arV ar0 from rfl]
                refine TO.p (DP.as (by conv => lhs; whnf)) ?_
                refine TO.nil ?_
                refine TQ.nn ?_
                refine T.ret ?_
                refine TQ.nr ?_
                rw [decA_bad s hc0 (fun h5 => by rw [h5.2] at hc1; cases hc1)]
                refine TQ.ret (vs := [.agg (arV ar0).toArray, .int .i64 (8 : Nat)]) (L' := []) rfl ⟨RV.atA rfl ag34 sz34 (by (repeat first | exact LMem.head _ _ | apply LMem.tail)) rfl, rfl, rfl⟩ ⟨rfl, rfl⟩ (by (refine Ent.imp ?_; repeat first | exact Imp.refl _ | exact Imp.nil _ | (apply Imp.pull; focus ((repeat first | exact Del.head _ _ | apply Del.tail); done)) | (apply Imp.row; focus ((repeat first | exact Del.head _ _ | apply Del.tail); done)) | apply Imp.drop))
              · refine T.skip ?_
                refine TQ.nn ?_
                refine T.seq ?_
                refine T.reg ?_
                refine TO.d (D.ldRA (cs := arV (arOf s)) rfl ag34 sz34 (by (repeat first | exact LMem.head _ _ | apply LMem.tail)) rfl) ?_
                refine TO.n0 (N.stA (vs := arV (arOf s)) rfl rfl sz34 (by (repeat first | exact Put.head _ _ _ | apply Put.tail)) (by simp [frV, arV, fr0, ar0]) (by simp [frV, arV, fr0, ar0, str, Value.oneCell']) (by rfl)) ?_
                rintro _ _ ⟨rfl, rfl⟩
                rw [show setAll _ 0 (arV (arOf s)) = arV (arOf s) from rfl]
                refine TO.p (DP.as (by conv => lhs; whnf)) ?_
                refine TO.nil ?_
                refine TQ.nn ?_
                refine T.ret ?_
                rw [decA_ok s hc0 (Decidable.not_not.1 hg33) (by simpa using hc1)]
                refine TQ.ret (vs := [.agg (arV (arOf s)).toArray, .int .i64 (0 : Nat)]) (L' := []) rfl ⟨RV.atA rfl ag34 sz34 (by (repeat first | exact LMem.head _ _ | apply LMem.tail)) rfl, rfl, rfl⟩ ⟨rfl, rfl⟩ (by (refine Ent.imp ?_; repeat first | exact Imp.refl _ | exact Imp.nil _ | (apply Imp.pull; focus ((repeat first | exact Del.head _ _ | apply Del.tail); done)) | (apply Imp.row; focus ((repeat first | exact Del.head _ _ | apply Del.tail); done)) | apply Imp.drop))
      · rintro _ _ ⟨b4, rfl, rfl⟩
        refine ⟨.inl rfl, ?_⟩
        refine TR.n 8 (by kernel_rfl) rfl (N.callF (value_spec ((s.take 18).drop 14) (by simp; omega)) Tryd.call44 ⟨rfl, trivial⟩ (by (repeat first | exact Pick.nil _ | (apply Pick.cons; focus ((repeat first | exact Del.head _ _ | apply Del.tail); done))))) ?_
        rintro u17 _ ⟨_, ⟨rfl, rfl⟩, rfl⟩
        try simp only [List.cons_append, List.nil_append]
        refine ⟨.inl rfl, ?_⟩
        refine TR.p 9 rfl (by kernel_rfl) (DP.to (v' := .int .u32 (valE ((s.take 18).drop 14) % 4294967296 : Nat)) (DP.cvW rfl is31 Tryd.underlying26 rfl (l := 4294967296) rfl) rfl) ?_
        refine TR.n 14 (by kernel_rfl) rfl (N.callF (value_spec ((s.take 28).drop 24) (by simp; omega)) Tryd.call44 ⟨rfl, trivial⟩ (by (repeat first | exact Pick.nil _ | (apply Pick.cons; focus ((repeat first | exact Del.head _ _ | apply Del.tail); done))))) ?_
        rintro u23 _ ⟨_, ⟨rfl, rfl⟩, rfl⟩
        try simp only [List.cons_append, List.nil_append]
        refine ⟨.inl rfl, ?_⟩
        refine TR.p 15 rfl (by kernel_rfl) (DP.to (v' := .int .u32 (valE ((s.take 28).drop 24) % 4294967296 : Nat)) (DP.cvW rfl is31 Tryd.underlying26 rfl (l := 4294967296) rfl) rfl) ?_
        refine TR.p 16 rfl (by kernel_rfl) (DP.bdL (vs := [(0, _), (1, _), (2, _), (3, _), (4, _)]) (us := arV (arOf s)) ⟨rfl, rfl, rfl, rfl, rfl, rfl, rfl, rfl, rfl, rfl, trivial⟩ pc34 zr34 rfl) ?_
        refine TR.n0 18 (by kernel_rfl) rfl (N.stA (vs := arV (arOf s)) rfl rfl sz34 (by (repeat first | exact Put.head _ _ _ | apply Put.tail)) (by simp [frV, arV, fr0, ar0]) (by simp [frV, arV, fr0, ar0, str, Value.oneCell']) (by rfl)) ?_
        rintro _ _ ⟨rfl, rfl⟩
        rw [show setAll _ 0 (arV (arOf s)) = arV (arOf s) from rfl]
        refine ⟨.inl rfl, ?_⟩
        refine TR.done (by kernel_rfl) ?_
        refine TQ.nn ?_
        refine T.seq ?_
        refine T.seq ?_
        refine T.drawL [9] mixed (by repeat first | exact Calm.rt | apply Calm.t | apply Calm.b | apply Calm.l | apply Calm.ct) ?_
        refine TR.p 0 rfl (by kernel_rfl) (DP.mv (by conv => lhs; whnf)) ?_
        refine TR.p 1 rfl (by kernel_rfl) (DP.slTh (j := 6) rfl rfl Tryd.underlying9 (by omega)) ?_
        refine TR.two 2 5 (by kernel_rfl) rfl (N.csb rfl Tryd.underlying9 Tryd.underlying60 Tryd.underlying5) rfl (N.callF (first_spec) Tryd.call42 trivial (by (repeat first | exact Pick.nil _ | (apply Pick.cons; focus ((repeat first | exact Del.head _ _ | apply Del.tail); done))))) ?_ ?_
        · rintro _ _ ⟨b28, r28, rfl, rfl⟩
          refine ⟨.inr (by (refine Ent.imp ?_; repeat first | exact Imp.refl _ | exact Imp.nil _ | (apply Imp.pull; focus ((repeat first | exact Del.head _ _ | apply Del.tail); done)) | (apply Imp.row; focus ((repeat first | exact Del.head _ _ | apply Del.tail); done)) | apply Imp.drop)), ?_⟩
          refine TR.p 3 rfl (by kernel_rfl) (DP.s2a rfl Tryd.underlying74 (by simp; omega)) ?_
          refine TR.two 4 5 (by kernel_rfl) rfl (D.n (D.ldRM (vs := (s.take 6).map byteV) rfl ag74 sz74 (by (repeat first | exact LMem.head _ _ | apply LMem.tail)) (fun i v hv => by rw [Nat.zero_add, List.getElem?_append_left (by rcases Nat.lt_or_ge i ((s.take 6).map byteV).length with h | h; exact h; rw [List.getElem?_eq_none h] at hv; cases hv)]; exact hv) (by simp; omega))) rfl (N.callF (first_spec) Tryd.call42 trivial (by (repeat first | exact Pick.nil _ | (apply Pick.cons; focus ((repeat first | exact Del.head _ _ | apply Del.tail); done))))) ?_ ?_
          · rintro _ _ ⟨rfl, rfl⟩
            refine ⟨.inr (by (refine Ent.imp ?_; repeat first | exact Imp.refl _ | exact Imp.nil _ | (apply Imp.pull; focus ((repeat first | exact Del.head _ _ | apply Del.tail); done)) | (apply Imp.row; focus ((repeat first | exact Del.head _ _ | apply Del.tail); done)) | apply Imp.drop)), ?_⟩
            refine TR.n 5 (by kernel_rfl) rfl (N.callF (first_spec) Tryd.call42 trivial (by (repeat first | exact Pick.nil _ | (apply Pick.cons; focus ((repeat first | exact Del.head _ _ | apply Del.tail); done))))) ?_
            rintro u31 _ ⟨_, ⟨rfl, rfl⟩, rfl⟩
            try simp only [List.cons_append, List.nil_append]
            refine ⟨.inr (by (refine Ent.imp ?_; repeat first | exact Imp.refl _ | exact Imp.nil _ | (apply Imp.pull; focus ((repeat first | exact Del.head _ _ | apply Del.tail); done)) | (apply Imp.row; focus ((repeat first | exact Del.head _ _ | apply Del.tail); done)) | apply Imp.drop)), ?_⟩
            refine TR.p 6 rfl (by kernel_rfl) (DP.to (v' := .bool (decide (s.take 6 ≠ hdE))) (DP.neOf rfl rfl eg74 (fun w => eqBytes Tryd.underlying74 Tryd.underlying5 pl5 sz5 (by simp; omega) rfl w)) (by simp)) ?_
            refine TR.pB 7 rfl (by kernel_rfl) (DP.mv (by conv => lhs; whnf)) (fun hg33 => ?_) (fun hg33 => ?_)
            · refine TR.off 8 rfl (by kernel_rfl) rfl rfl ?_
              refine TR.off 9 rfl (by kernel_rfl) rfl rfl ?_
              refine TR.off 10 rfl (by kernel_rfl) rfl rfl ?_
              refine TR.p 11 rfl (by kernel_rfl) (DP.pkT rfl (by conv => lhs; whnf)) ?_
              refine TR.done (by kernel_rfl) ?_
              refine TQ.nn ?_
              refine T.condT rfl ?_
              refine T.seq ?_
              refine T.reg ?_
              refine TO.p (DP.bdL (vs := []) (us := arV ar0) trivial pc34 zr34 rfl) ?_
              refine TO.n0 (N.stA (vs := arV ar0) rfl rfl sz34 (by (repeat first | exact Put.head _ _ _ | apply Put.tail)) (by simp [frV, arV, fr0, ar0]) (by simp [frV, arV, fr0, ar0, str, Value.oneCell']) (by rfl)) ?_
              rintro _ _ ⟨rfl, rfl⟩
              rw [show setAll _ 0 (arV ar0) = arV ar0 from rfl]
              refine TO.p (DP.as (by conv => lhs; whnf)) ?_
              refine TO.nil ?_
              refine TQ.nn ?_
              refine T.ret ?_
              refine TQ.nr ?_
              rw [decA_bad s hc0 (fun h5 => hg33 h5.1)]
              refine TQ.ret (vs := [.agg (arV ar0).toArray, .int .i64 (8 : Nat)]) (L' := []) rfl ⟨RV.atA rfl ag34 sz34 (by (repeat first | exact LMem.head _ _ | apply LMem.tail)) rfl, rfl, rfl⟩ ⟨rfl, rfl⟩ (by (refine Ent.imp ?_; repeat first | exact Imp.refl _ | exact Imp.nil _ | (apply Imp.pull; focus ((repeat first | exact Del.head _ _ | apply Del.tail); done)) | (apply Imp.row; focus ((repeat first | exact Del.head _ _ | apply Del.tail); done)) | apply Imp.drop))
            · refine TR.don 8 rfl (by kernel_rfl) (by kernel_rfl) (by (refine Ent.imp ?_; repeat first | exact Imp.refl _ | exact Imp.nil _ | (apply Imp.pull; focus ((repeat first | exact Del.head _ _ | apply Del.tail); done)) | (apply Imp.row; focus ((repeat first | exact Del.head _ _ | apply Del.tail); done)) | apply Imp.drop)) rfl (D.ldRA (cs := arV (arOf s)) rfl ag34 sz34 (by (repeat first | exact LMem.head _ _ | apply LMem.tail)) rfl) ?_
              refine TR.non 9 (by kernel_rfl) rfl rfl (N.callF (may_spec (arOf s)) Tryd.call33 ⟨rfl, trivial⟩ (by (repeat first | exact Pick.nil _ | (apply Pick.cons; focus ((repeat first | exact Del.head _ _ | apply Del.tail); done))))) ?_
              rintro u35 _ ⟨_, ⟨rfl, rfl⟩, rfl⟩
              try simp only [List.cons_append, List.nil_append]
              refine ⟨.inl rfl, ?_⟩
              refine TR.pon 10 rfl (by kernel_rfl) rfl (DP.not rfl) ?_
              refine TR.p 11 rfl (by kernel_rfl) (DP.pkF rfl (by conv => lhs; whnf)) ?_
              refine TR.done (by kernel_rfl) ?_
              refine TQ.nn ?_
              refine T.condB rfl (fun hc1 => ?_) (fun hc1 => ?_)
              · refine T.seq ?_
                refine T.reg ?_
                refine TO.p (DP.bdL (vs := []) (us := arV ar0) trivial pc34 zr34 rfl) ?_
                refine TO.n0 (N.stA (vs := arV ar0) rfl rfl sz34 (by (repeat first | exact Put.head _ _ _ | apply Put.tail)) (by simp [frV, arV, fr0, ar0]) (by simp [frV, arV, fr0, ar0, str, Value.oneCell']) (by rfl)) ?_
                rintro _ _ ⟨rfl, rfl⟩
                rw [show setAll _ 0 (arV ar0) = arV ar0 from rfl]
                refine TO.p (DP.as (by conv => lhs; whnf)) ?_
                refine TO.nil ?_
                refine TQ.nn ?_
                refine T.ret ?_
                refine TQ.nr ?_
                rw [decA_bad s hc0 (fun h5 => by rw [h5.2] at hc1; cases hc1)]
                refine TQ.ret (vs := [.agg (arV ar0).toArray, .int .i64 (8 : Nat)]) (L' := []) rfl ⟨RV.atA rfl ag34 sz34 (by (repeat first | exact LMem.head _ _ | apply LMem.tail)) rfl, rfl, rfl⟩ ⟨rfl, rfl⟩ (by (refine Ent.imp ?_; repeat first | exact Imp.refl _ | exact Imp.nil _ | (apply Imp.pull; focus ((repeat first | exact Del.head _ _ | apply Del.tail); done)) | (apply Imp.row; focus ((repeat first | exact Del.head _ _ | apply Del.tail); done)) | apply Imp.drop))
              · refine T.skip ?_
                refine TQ.nn ?_
                refine T.seq ?_
                refine T.reg ?_
                refine TO.d (D.ldRA (cs := arV (arOf s)) rfl ag34 sz34 (by (repeat first | exact LMem.head _ _ | apply LMem.tail)) rfl) ?_
                refine TO.n0 (N.stA (vs := arV (arOf s)) rfl rfl sz34 (by (repeat first | exact Put.head _ _ _ | apply Put.tail)) (by simp [frV, arV, fr0, ar0]) (by simp [frV, arV, fr0, ar0, str, Value.oneCell']) (by rfl)) ?_
                rintro _ _ ⟨rfl, rfl⟩
                rw [show setAll _ 0 (arV (arOf s)) = arV (arOf s) from rfl]
                refine TO.p (DP.as (by conv => lhs; whnf)) ?_
                refine TO.nil ?_
                refine TQ.nn ?_
                refine T.ret ?_
                rw [decA_ok s hc0 (Decidable.not_not.1 hg33) (by simpa using hc1)]
                refine TQ.ret (vs := [.agg (arV (arOf s)).toArray, .int .i64 (0 : Nat)]) (L' := []) rfl ⟨RV.atA rfl ag34 sz34 (by (repeat first | exact LMem.head _ _ | apply LMem.tail)) rfl, rfl, rfl⟩ ⟨rfl, rfl⟩ (by (refine Ent.imp ?_; repeat first | exact Imp.refl _ | exact Imp.nil _ | (apply Imp.pull; focus ((repeat first | exact Del.head _ _ | apply Del.tail); done)) | (apply Imp.row; focus ((repeat first | exact Del.head _ _ | apply Del.tail); done)) | apply Imp.drop))
          · rintro u31 _ ⟨_, ⟨rfl, rfl⟩, rfl⟩
            try simp only [List.cons_append, List.nil_append]
            refine ⟨.inr (by (refine Ent.imp ?_; repeat first | exact Imp.refl _ | exact Imp.nil _ | (apply Imp.pull; focus ((repeat first | exact Del.head _ _ | apply Del.tail); done)) | (apply Imp.row; focus ((repeat first | exact Del.head _ _ | apply Del.tail); done)) | apply Imp.drop)), ?_⟩
            refine TR.n 4 (by kernel_rfl) rfl (D.n (D.ldRM (vs := (s.take 6).map byteV) rfl ag74 sz74 (by (repeat first | exact LMem.head _ _ | apply LMem.tail)) (fun i v hv => by rw [Nat.zero_add, List.getElem?_append_left (by rcases Nat.lt_or_ge i ((s.take 6).map byteV).length with h | h; exact h; rw [List.getElem?_eq_none h] at hv; cases hv)]; exact hv) (by simp; omega))) ?_
            rintro _ _ ⟨rfl, rfl⟩
            refine ⟨.inr (by (refine Ent.imp ?_; repeat first | exact Imp.refl _ | exact Imp.nil _ | (apply Imp.pull; focus ((repeat first | exact Del.head _ _ | apply Del.tail); done)) | (apply Imp.row; focus ((repeat first | exact Del.head _ _ | apply Del.tail); done)) | apply Imp.drop)), ?_⟩
            refine TR.p 6 rfl (by kernel_rfl) (DP.to (v' := .bool (decide (s.take 6 ≠ hdE))) (DP.neOf rfl rfl eg74 (fun w => eqBytes Tryd.underlying74 Tryd.underlying5 pl5 sz5 (by simp; omega) rfl w)) (by simp)) ?_
            refine TR.pB 7 rfl (by kernel_rfl) (DP.mv (by conv => lhs; whnf)) (fun hg33 => ?_) (fun hg33 => ?_)
            · refine TR.off 8 rfl (by kernel_rfl) rfl rfl ?_
              refine TR.off 9 rfl (by kernel_rfl) rfl rfl ?_
              refine TR.off 10 rfl (by kernel_rfl) rfl rfl ?_
              refine TR.p 11 rfl (by kernel_rfl) (DP.pkT rfl (by conv => lhs; whnf)) ?_
              refine TR.done (by kernel_rfl) ?_
              refine TQ.nn ?_
              refine T.condT rfl ?_
              refine T.seq ?_
              refine T.reg ?_
              refine TO.p (DP.bdL (vs := []) (us := arV ar0) trivial pc34 zr34 rfl) ?_
              refine TO.n0 (N.stA (vs := arV ar0) rfl rfl sz34 (by (repeat first | exact Put.head _ _ _ | apply Put.tail)) (by simp [frV, arV, fr0, ar0]) (by simp [frV, arV, fr0, ar0, str, Value.oneCell']) (by rfl)) ?_
              rintro _ _ ⟨rfl, rfl⟩
              rw [show setAll _ 0 (arV ar0) = arV ar0 from rfl]
              refine TO.p (DP.as (by conv => lhs; whnf)) ?_
              refine TO.nil ?_
              refine TQ.nn ?_
              refine T.ret ?_
              refine TQ.nr ?_
              rw [decA_bad s hc0 (fun h5 => hg33 h5.1)]
              refine TQ.ret (vs := [.agg (arV ar0).toArray, .int .i64 (8 : Nat)]) (L' := []) rfl ⟨RV.atA rfl ag34 sz34 (by (repeat first | exact LMem.head _ _ | apply LMem.tail)) rfl, rfl, rfl⟩ ⟨rfl, rfl⟩ (by (refine Ent.imp ?_; repeat first | exact Imp.refl _ | exact Imp.nil _ | (apply Imp.pull; focus ((repeat first | exact Del.head _ _ | apply Del.tail); done)) | (apply Imp.row; focus ((repeat first | exact Del.head _ _ | apply Del.tail); done)) | apply Imp.drop))
            · refine TR.don 8 rfl (by kernel_rfl) (by kernel_rfl) (by (refine Ent.imp ?_; repeat first | exact Imp.refl _ | exact Imp.nil _ | (apply Imp.pull; focus ((repeat first | exact Del.head _ _ | apply Del.tail); done)) | (apply Imp.row; focus ((repeat first | exact Del.head _ _ | apply Del.tail); done)) | apply Imp.drop)) rfl (D.ldRA (cs := arV (arOf s)) rfl ag34 sz34 (by (repeat first | exact LMem.head _ _ | apply LMem.tail)) rfl) ?_
              refine TR.non 9 (by kernel_rfl) rfl rfl (N.callF (may_spec (arOf s)) Tryd.call33 ⟨rfl, trivial⟩ (by (repeat first | exact Pick.nil _ | (apply Pick.cons; focus ((repeat first | exact Del.head _ _ | apply Del.tail); done))))) ?_
              rintro u35 _ ⟨_, ⟨rfl, rfl⟩, rfl⟩
              try simp only [List.cons_append, List.nil_append]
              refine ⟨.inl rfl, ?_⟩
              refine TR.pon 10 rfl (by kernel_rfl) rfl (DP.not rfl) ?_
              refine TR.p 11 rfl (by kernel_rfl) (DP.pkF rfl (by conv => lhs; whnf)) ?_
              refine TR.done (by kernel_rfl) ?_
              refine TQ.nn ?_
              refine T.condB rfl (fun hc1 => ?_) (fun hc1 => ?_)
              · refine T.seq ?_
                refine T.reg ?_
                refine TO.p (DP.bdL (vs := []) (us := arV ar0) trivial pc34 zr34 rfl) ?_
                refine TO.n0 (N.stA (vs := arV ar0) rfl rfl sz34 (by (repeat first | exact Put.head _ _ _ | apply Put.tail)) (by simp [frV, arV, fr0, ar0]) (by simp [frV, arV, fr0, ar0, str, Value.oneCell']) (by rfl)) ?_
                rintro _ _ ⟨rfl, rfl⟩
                rw [show setAll _ 0 (arV ar0) = arV ar0 from rfl]
                refine TO.p (DP.as (by conv => lhs; whnf)) ?_
                refine TO.nil ?_
                refine TQ.nn ?_
                refine T.ret ?_
                refine TQ.nr ?_
                rw [decA_bad s hc0 (fun h5 => by rw [h5.2] at hc1; cases hc1)]
                refine TQ.ret (vs := [.agg (arV ar0).toArray, .int .i64 (8 : Nat)]) (L' := []) rfl ⟨RV.atA rfl ag34 sz34 (by (repeat first | exact LMem.head _ _ | apply LMem.tail)) rfl, rfl, rfl⟩ ⟨rfl, rfl⟩ (by (refine Ent.imp ?_; repeat first | exact Imp.refl _ | exact Imp.nil _ | (apply Imp.pull; focus ((repeat first | exact Del.head _ _ | apply Del.tail); done)) | (apply Imp.row; focus ((repeat first | exact Del.head _ _ | apply Del.tail); done)) | apply Imp.drop))
              · refine T.skip ?_
                refine TQ.nn ?_
                refine T.seq ?_
                refine T.reg ?_
                refine TO.d (D.ldRA (cs := arV (arOf s)) rfl ag34 sz34 (by (repeat first | exact LMem.head _ _ | apply LMem.tail)) rfl) ?_
                refine TO.n0 (N.stA (vs := arV (arOf s)) rfl rfl sz34 (by (repeat first | exact Put.head _ _ _ | apply Put.tail)) (by simp [frV, arV, fr0, ar0]) (by simp [frV, arV, fr0, ar0, str, Value.oneCell']) (by rfl)) ?_
                rintro _ _ ⟨rfl, rfl⟩
                rw [show setAll _ 0 (arV (arOf s)) = arV (arOf s) from rfl]
                refine TO.p (DP.as (by conv => lhs; whnf)) ?_
                refine TO.nil ?_
                refine TQ.nn ?_
                refine T.ret ?_
                rw [decA_ok s hc0 (Decidable.not_not.1 hg33) (by simpa using hc1)]
                refine TQ.ret (vs := [.agg (arV (arOf s)).toArray, .int .i64 (0 : Nat)]) (L' := []) rfl ⟨RV.atA rfl ag34 sz34 (by (repeat first | exact LMem.head _ _ | apply LMem.tail)) rfl, rfl, rfl⟩ ⟨rfl, rfl⟩ (by (refine Ent.imp ?_; repeat first | exact Imp.refl _ | exact Imp.nil _ | (apply Imp.pull; focus ((repeat first | exact Del.head _ _ | apply Del.tail); done)) | (apply Imp.row; focus ((repeat first | exact Del.head _ _ | apply Del.tail); done)) | apply Imp.drop))
        · rintro u31 _ ⟨_, ⟨rfl, rfl⟩, rfl⟩
          try simp only [List.cons_append, List.nil_append]
          refine ⟨.inr (by (refine Ent.imp ?_; repeat first | exact Imp.refl _ | exact Imp.nil _ | (apply Imp.pull; focus ((repeat first | exact Del.head _ _ | apply Del.tail); done)) | (apply Imp.row; focus ((repeat first | exact Del.head _ _ | apply Del.tail); done)) | apply Imp.drop)), ?_⟩
          refine TR.n 2 (by kernel_rfl) rfl (N.csb rfl Tryd.underlying9 Tryd.underlying60 Tryd.underlying5) ?_
          rintro _ _ ⟨b28, r28, rfl, rfl⟩
          refine ⟨.inr (by (refine Ent.imp ?_; repeat first | exact Imp.refl _ | exact Imp.nil _ | (apply Imp.pull; focus ((repeat first | exact Del.head _ _ | apply Del.tail); done)) | (apply Imp.row; focus ((repeat first | exact Del.head _ _ | apply Del.tail); done)) | apply Imp.drop)), ?_⟩
          refine TR.p 3 rfl (by kernel_rfl) (DP.s2a rfl Tryd.underlying74 (by simp; omega)) ?_
          refine TR.n 4 (by kernel_rfl) rfl (D.n (D.ldRM (vs := (s.take 6).map byteV) rfl ag74 sz74 (by (repeat first | exact LMem.head _ _ | apply LMem.tail)) (fun i v hv => by rw [Nat.zero_add, List.getElem?_append_left (by rcases Nat.lt_or_ge i ((s.take 6).map byteV).length with h | h; exact h; rw [List.getElem?_eq_none h] at hv; cases hv)]; exact hv) (by simp; omega))) ?_
          rintro _ _ ⟨rfl, rfl⟩
          refine ⟨.inr (by (refine Ent.imp ?_; repeat first | exact Imp.refl _ | exact Imp.nil _ | (apply Imp.pull; focus ((repeat first | exact Del.head _ _ | apply Del.tail); done)) | (apply Imp.row; focus ((repeat first | exact Del.head _ _ | apply Del.tail); done)) | apply Imp.drop)), ?_⟩
          refine TR.p 6 rfl (by kernel_rfl) (DP.to (v' := .bool (decide (s.take 6 ≠ hdE))) (DP.neOf rfl rfl eg74 (fun w => eqBytes Tryd.underlying74 Tryd.underlying5 pl5 sz5 (by simp; omega) rfl w)) (by simp)) ?_
          refine TR.pB 7 rfl (by kernel_rfl) (DP.mv (by conv => lhs; whnf)) (fun hg33 => ?_) (fun hg33 => ?_)
          · refine TR.off 8 rfl (by kernel_rfl) rfl rfl ?_
            refine TR.off 9 rfl (by kernel_rfl) rfl rfl ?_
            refine TR.off 10 rfl (by kernel_rfl) rfl rfl ?_
            refine TR.p 11 rfl (by kernel_rfl) (DP.pkT rfl (by conv => lhs; whnf)) ?_
            refine TR.done (by kernel_rfl) ?_
            refine TQ.nn ?_
            refine T.condT rfl ?_
            refine T.seq ?_
            refine T.reg ?_
            refine TO.p (DP.bdL (vs := []) (us := arV ar0) trivial pc34 zr34 rfl) ?_
            refine TO.n0 (N.stA (vs := arV ar0) rfl rfl sz34 (by (repeat first | exact Put.head _ _ _ | apply Put.tail)) (by simp [frV, arV, fr0, ar0]) (by simp [frV, arV, fr0, ar0, str, Value.oneCell']) (by rfl)) ?_
            rintro _ _ ⟨rfl, rfl⟩
            rw [show setAll _ 0 (arV ar0) = arV ar0 from rfl]
            refine TO.p (DP.as (by conv => lhs; whnf)) ?_
            refine TO.nil ?_
            refine TQ.nn ?_
            refine T.ret ?_
            refine TQ.nr ?_
            rw [decA_bad s hc0 (fun h5 => hg33 h5.1)]
            refine TQ.ret (vs := [.agg (arV ar0).toArray, .int .i64 (8 : Nat)]) (L' := []) rfl ⟨RV.atA rfl ag34 sz34 (by (repeat first | exact LMem.head _ _ | apply LMem.tail)) rfl, rfl, rfl⟩ ⟨rfl, rfl⟩ (by (refine Ent.imp ?_; repeat first | exact Imp.refl _ | exact Imp.nil _ | (apply Imp.pull; focus ((repeat first | exact Del.head _ _ | apply Del.tail); done)) | (apply Imp.row; focus ((repeat first | exact Del.head _ _ | apply Del.tail); done)) | apply Imp.drop))
          · refine TR.don 8 rfl (by kernel_rfl) (by kernel_rfl) (by (refine Ent.imp ?_; repeat first | exact Imp.refl _ | exact Imp.nil _ | (apply Imp.pull; focus ((repeat first | exact Del.head _ _ | apply Del.tail); done)) | (apply Imp.row; focus ((repeat first | exact Del.head _ _ | apply Del.tail); done)) | apply Imp.drop)) rfl (D.ldRA (cs := arV (arOf s)) rfl ag34 sz34 (by (repeat first | exact LMem.head _ _ | apply LMem.tail)) rfl) ?_
            refine TR.non 9 (by kernel_rfl) rfl rfl (N.callF (may_spec (arOf s)) Tryd.call33 ⟨rfl, trivial⟩ (by (repeat first | exact Pick.nil _ | (apply Pick.cons; focus ((repeat first | exact Del.head _ _ | apply Del.tail); done))))) ?_
            rintro u35 _ ⟨_, ⟨rfl, rfl⟩, rfl⟩
            try simp only [List.cons_append, List.nil_append]
            refine ⟨.inl rfl, ?_⟩
            refine TR.pon 10 rfl (by kernel_rfl) rfl (DP.not rfl) ?_
            refine TR.p 11 rfl (by kernel_rfl) (DP.pkF rfl (by conv => lhs; whnf)) ?_
            refine TR.done (by kernel_rfl) ?_
            refine TQ.nn ?_
            refine T.condB rfl (fun hc1 => ?_) (fun hc1 => ?_)
            · refine T.seq ?_
              refine T.reg ?_
              refine TO.p (DP.bdL (vs := []) (us := arV ar0) trivial pc34 zr34 rfl) ?_
              refine TO.n0 (N.stA (vs := arV ar0) rfl rfl sz34 (by (repeat first | exact Put.head _ _ _ | apply Put.tail)) (by simp [frV, arV, fr0, ar0]) (by simp [frV, arV, fr0, ar0, str, Value.oneCell']) (by rfl)) ?_
              rintro _ _ ⟨rfl, rfl⟩
              rw [show setAll _ 0 (arV ar0) = arV ar0 from rfl]
              refine TO.p (DP.as (by conv => lhs; whnf)) ?_
              refine TO.nil ?_
              refine TQ.nn ?_
              refine T.ret ?_
              refine TQ.nr ?_
              rw [decA_bad s hc0 (fun h5 => by rw [h5.2] at hc1; cases hc1)]
              refine TQ.ret (vs := [.agg (arV ar0).toArray, .int .i64 (8 : Nat)]) (L' := []) rfl ⟨RV.atA rfl ag34 sz34 (by (repeat first | exact LMem.head _ _ | apply LMem.tail)) rfl, rfl, rfl⟩ ⟨rfl, rfl⟩ (by (refine Ent.imp ?_; repeat first | exact Imp.refl _ | exact Imp.nil _ | (apply Imp.pull; focus ((repeat first | exact Del.head _ _ | apply Del.tail); done)) | (apply Imp.row; focus ((repeat first | exact Del.head _ _ | apply Del.tail); done)) | apply Imp.drop))
            · refine T.skip ?_
              refine TQ.nn ?_
              refine T.seq ?_
              refine T.reg ?_
              refine TO.d (D.ldRA (cs := arV (arOf s)) rfl ag34 sz34 (by (repeat first | exact LMem.head _ _ | apply LMem.tail)) rfl) ?_
              refine TO.n0 (N.stA (vs := arV (arOf s)) rfl rfl sz34 (by (repeat first | exact Put.head _ _ _ | apply Put.tail)) (by simp [frV, arV, fr0, ar0]) (by simp [frV, arV, fr0, ar0, str, Value.oneCell']) (by rfl)) ?_
              rintro _ _ ⟨rfl, rfl⟩
              rw [show setAll _ 0 (arV (arOf s)) = arV (arOf s) from rfl]
              refine TO.p (DP.as (by conv => lhs; whnf)) ?_
              refine TO.nil ?_
              refine TQ.nn ?_
              refine T.ret ?_
              rw [decA_ok s hc0 (Decidable.not_not.1 hg33) (by simpa using hc1)]
              refine TQ.ret (vs := [.agg (arV (arOf s)).toArray, .int .i64 (0 : Nat)]) (L' := []) rfl ⟨RV.atA rfl ag34 sz34 (by (repeat first | exact LMem.head _ _ | apply LMem.tail)) rfl, rfl, rfl⟩ ⟨rfl, rfl⟩ (by (refine Ent.imp ?_; repeat first | exact Imp.refl _ | exact Imp.nil _ | (apply Imp.pull; focus ((repeat first | exact Del.head _ _ | apply Del.tail); done)) | (apply Imp.row; focus ((repeat first | exact Del.head _ _ | apply Del.tail); done)) | apply Imp.drop))
    · rintro _ _ ⟨b4, rfl, rfl⟩
      refine ⟨.inl rfl, ?_⟩
      refine TR.n 2 (by kernel_rfl) rfl (N.callF (value_spec ((s.take 8).drop 6) (by simp; omega)) Tryd.call44 ⟨rfl, trivial⟩ (by (repeat first | exact Pick.nil _ | (apply Pick.cons; focus ((repeat first | exact Del.head _ _ | apply Del.tail); done))))) ?_
      rintro u11 _ ⟨_, ⟨rfl, rfl⟩, rfl⟩
      try simp only [List.cons_append, List.nil_append]
      refine ⟨.inl rfl, ?_⟩
      refine TR.p 3 rfl (by kernel_rfl) (DP.to (v' := .int .u16 (valE ((s.take 8).drop 6) % 65536 : Nat)) (DP.cvW rfl is31 Tryd.underlying22 rfl (l := 65536) rfl) rfl) ?_
      refine TR.n 8 (by kernel_rfl) rfl (N.callF (value_spec ((s.take 18).drop 14) (by simp; omega)) Tryd.call44 ⟨rfl, trivial⟩ (by (repeat first | exact Pick.nil _ | (apply Pick.cons; focus ((repeat first | exact Del.head _ _ | apply Del.tail); done))))) ?_
      rintro u17 _ ⟨_, ⟨rfl, rfl⟩, rfl⟩
      try simp only [List.cons_append, List.nil_append]
      refine ⟨.inl rfl, ?_⟩
      refine TR.p 9 rfl (by kernel_rfl) (DP.to (v' := .int .u32 (valE ((s.take 18).drop 14) % 4294967296 : Nat)) (DP.cvW rfl is31 Tryd.underlying26 rfl (l := 4294967296) rfl) rfl) ?_
      refine TR.n 14 (by kernel_rfl) rfl (N.callF (value_spec ((s.take 28).drop 24) (by simp; omega)) Tryd.call44 ⟨rfl, trivial⟩ (by (repeat first | exact Pick.nil _ | (apply Pick.cons; focus ((repeat first | exact Del.head _ _ | apply Del.tail); done))))) ?_
      rintro u23 _ ⟨_, ⟨rfl, rfl⟩, rfl⟩
      try simp only [List.cons_append, List.nil_append]
      refine ⟨.inl rfl, ?_⟩
      refine TR.p 15 rfl (by kernel_rfl) (DP.to (v' := .int .u32 (valE ((s.take 28).drop 24) % 4294967296 : Nat)) (DP.cvW rfl is31 Tryd.underlying26 rfl (l := 4294967296) rfl) rfl) ?_
      refine TR.p 16 rfl (by kernel_rfl) (DP.bdL (vs := [(0, _), (1, _), (2, _), (3, _), (4, _)]) (us := arV (arOf s)) ⟨rfl, rfl, rfl, rfl, rfl, rfl, rfl, rfl, rfl, rfl, trivial⟩ pc34 zr34 rfl) ?_
      refine TR.n0 18 (by kernel_rfl) rfl (N.stA (vs := arV (arOf s)) rfl rfl sz34 (by (repeat first | exact Put.head _ _ _ | apply Put.tail)) (by simp [frV, arV, fr0, ar0]) (by simp [frV, arV, fr0, ar0, str, Value.oneCell']) (by rfl)) ?_
      rintro _ _ ⟨rfl, rfl⟩
      rw [show setAll _ 0 (arV (arOf s)) = arV (arOf s) from rfl]
      refine ⟨.inl rfl, ?_⟩
      refine TR.done (by kernel_rfl) ?_
      refine TQ.nn ?_
      refine T.seq ?_
      refine T.seq ?_
      refine T.drawL [9] mixed (by repeat first | exact Calm.rt | apply Calm.t | apply Calm.b | apply Calm.l | apply Calm.ct) ?_
      refine TR.p 0 rfl (by kernel_rfl) (DP.mv (by conv => lhs; whnf)) ?_
      refine TR.p 1 rfl (by kernel_rfl) (DP.slTh (j := 6) rfl rfl Tryd.underlying9 (by omega)) ?_
      refine TR.two 2 5 (by kernel_rfl) rfl (N.csb rfl Tryd.underlying9 Tryd.underlying60 Tryd.underlying5) rfl (N.callF (first_spec) Tryd.call42 trivial (by (repeat first | exact Pick.nil _ | (apply Pick.cons; focus ((repeat first | exact Del.head _ _ | apply Del.tail); done))))) ?_ ?_
      · rintro _ _ ⟨b28, r28, rfl, rfl⟩
        refine ⟨.inr (by (refine Ent.imp ?_; repeat first | exact Imp.refl _ | exact Imp.nil _ | (apply Imp.pull; focus ((repeat first | exact Del.head _ _ | apply Del.tail); done)) | (apply Imp.row; focus ((repeat first | exact Del.head _ _ | apply Del.tail); done)) | apply Imp.drop)), ?_⟩
        refine TR.p 3 rfl (by kernel_rfl) (DP.s2a rfl Tryd.underlying74 (by simp; omega)) ?_
        refine TR.two 4 5 (by kernel_rfl) rfl (D.n (D.ldRM (vs := (s.take 6).map byteV) rfl ag74 sz74 (by (repeat first | exact LMem.head _ _ | apply LMem.tail)) (fun i v hv => by rw [Nat.zero_add, List.getElem?_append_left (by rcases Nat.lt_or_ge i ((s.take 6).map byteV).length with h | h; exact h; rw [List.getElem?_eq_none h] at hv; cases hv)]; exact hv) (by simp; omega))) rfl (N.callF (first_spec) Tryd.call42 trivial (by (repeat first | exact Pick.nil _ | (apply Pick.cons; focus ((repeat first | exact Del.head _ _ | apply Del.tail); done))))) ?_ ?_
        · rintro _ _ ⟨rfl, rfl⟩
          refine ⟨.inr (by (refine Ent.imp ?_; repeat first | exact Imp.refl _ | exact Imp.nil _ | (apply Imp.pull; focus ((repeat first | exact Del.head _ _ | apply Del.tail); done)) | (apply Imp.row; focus ((repeat first | exact Del.head _ _ | apply Del.tail); done)) | apply Imp.drop)), ?_⟩
          refine TR.n 5 (by kernel_rfl) rfl (N.callF (first_spec) Tryd.call42 trivial (by (repeat first | exact Pick.nil _ | (apply Pick.cons; focus ((repeat first | exact Del.head _ _ | apply Del.tail); done))))) ?_
          rintro u31 _ ⟨_, ⟨rfl, rfl⟩, rfl⟩
          try simp only [List.cons_append, List.nil_append]
          refine ⟨.inr (by (refine Ent.imp ?_; repeat first | exact Imp.refl _ | exact Imp.nil _ | (apply Imp.pull; focus ((repeat first | exact Del.head _ _ | apply Del.tail); done)) | (apply Imp.row; focus ((repeat first | exact Del.head _ _ | apply Del.tail); done)) | apply Imp.drop)), ?_⟩
          refine TR.p 6 rfl (by kernel_rfl) (DP.to (v' := .bool (decide (s.take 6 ≠ hdE))) (DP.neOf rfl rfl eg74 (fun w => eqBytes Tryd.underlying74 Tryd.underlying5 pl5 sz5 (by simp; omega) rfl w)) (by simp)) ?_
          refine TR.pB 7 rfl (by kernel_rfl) (DP.mv (by conv => lhs; whnf)) (fun hg33 => ?_) (fun hg33 => ?_)
          · refine TR.off 8 rfl (by kernel_rfl) rfl rfl ?_
            refine TR.off 9 rfl (by kernel_rfl) rfl rfl ?_
            refine TR.off 10 rfl (by kernel_rfl) rfl rfl ?_
            refine TR.p 11 rfl (by kernel_rfl) (DP.pkT rfl (by conv => lhs; whnf)) ?_
            refine TR.done (by kernel_rfl) ?_
            refine TQ.nn ?_
            refine T.condT rfl ?_
            refine T.seq ?_
            refine T.reg ?_
            refine TO.p (DP.bdL (vs := []) (us := arV ar0) trivial pc34 zr34 rfl) ?_
            refine TO.n0 (N.stA (vs := arV ar0) rfl rfl sz34 (by (repeat first | exact Put.head _ _ _ | apply Put.tail)) (by simp [frV, arV, fr0, ar0]) (by simp [frV, arV, fr0, ar0, str, Value.oneCell']) (by rfl)) ?_
            rintro _ _ ⟨rfl, rfl⟩
            rw [show setAll _ 0 (arV ar0) = arV ar0 from rfl]
            refine TO.p (DP.as (by conv => lhs; whnf)) ?_
            refine TO.nil ?_
            refine TQ.nn ?_
            refine T.ret ?_
            refine TQ.nr ?_
            rw [decA_bad s hc0 (fun h5 => hg33 h5.1)]
            refine TQ.ret (vs := [.agg (arV ar0).toArray, .int .i64 (8 : Nat)]) (L' := []) rfl ⟨RV.atA rfl ag34 sz34 (by (repeat first | exact LMem.head _ _ | apply LMem.tail)) rfl, rfl, rfl⟩ ⟨rfl, rfl⟩ (by (refine Ent.imp ?_; repeat first | exact Imp.refl _ | exact Imp.nil _ | (apply Imp.pull; focus ((repeat first | exact Del.head _ _ | apply Del.tail); done)) | (apply Imp.row; focus ((repeat first | exact Del.head _ _ | apply Del.tail); done)) | apply Imp.drop))
          · refine TR.don 8 rfl (by kernel_rfl) (by kernel_rfl) (by (refine Ent.imp ?_; repeat first | exact Imp.refl _ | exact Imp.nil _ | (apply Imp.pull; focus ((repeat first | exact Del.head _ _ | apply Del.tail); done)) | (apply Imp.row; focus ((repeat first | exact Del.head _ _ | apply Del.tail); done)) | apply Imp.drop)) rfl (D.ldRA (cs := arV (arOf s)) rfl ag34 sz34 (by (repeat first | exact LMem.head _ _ | apply LMem.tail)) rfl) ?_
            refine TR.non 9 (by kernel_rfl) rfl rfl (N.callF (may_spec (arOf s)) Tryd.call33 ⟨rfl, trivial⟩ (by (repeat first | exact Pick.nil _ | (apply Pick.cons; focus ((repeat first | exact Del.head _ _ | apply Del.tail); done))))) ?_
            rintro u35 _ ⟨_, ⟨rfl, rfl⟩, rfl⟩
            try simp only [List.cons_append, List.nil_append]
            refine ⟨.inl rfl, ?_⟩
            refine TR.pon 10 rfl (by kernel_rfl) rfl (DP.not rfl) ?_
            refine TR.p 11 rfl (by kernel_rfl) (DP.pkF rfl (by conv => lhs; whnf)) ?_
            refine TR.done (by kernel_rfl) ?_
            refine TQ.nn ?_
            refine T.condB rfl (fun hc1 => ?_) (fun hc1 => ?_)
            · refine T.seq ?_
              refine T.reg ?_
              refine TO.p (DP.bdL (vs := []) (us := arV ar0) trivial pc34 zr34 rfl) ?_
              refine TO.n0 (N.stA (vs := arV ar0) rfl rfl sz34 (by (repeat first | exact Put.head _ _ _ | apply Put.tail)) (by simp [frV, arV, fr0, ar0]) (by simp [frV, arV, fr0, ar0, str, Value.oneCell']) (by rfl)) ?_
              rintro _ _ ⟨rfl, rfl⟩
              rw [show setAll _ 0 (arV ar0) = arV ar0 from rfl]
              refine TO.p (DP.as (by conv => lhs; whnf)) ?_
              refine TO.nil ?_
              refine TQ.nn ?_
              refine T.ret ?_
              refine TQ.nr ?_
              rw [decA_bad s hc0 (fun h5 => by rw [h5.2] at hc1; cases hc1)]
              refine TQ.ret (vs := [.agg (arV ar0).toArray, .int .i64 (8 : Nat)]) (L' := []) rfl ⟨RV.atA rfl ag34 sz34 (by (repeat first | exact LMem.head _ _ | apply LMem.tail)) rfl, rfl, rfl⟩ ⟨rfl, rfl⟩ (by (refine Ent.imp ?_; repeat first | exact Imp.refl _ | exact Imp.nil _ | (apply Imp.pull; focus ((repeat first | exact Del.head _ _ | apply Del.tail); done)) | (apply Imp.row; focus ((repeat first | exact Del.head _ _ | apply Del.tail); done)) | apply Imp.drop))
            · refine T.skip ?_
              refine TQ.nn ?_
              refine T.seq ?_
              refine T.reg ?_
              refine TO.d (D.ldRA (cs := arV (arOf s)) rfl ag34 sz34 (by (repeat first | exact LMem.head _ _ | apply LMem.tail)) rfl) ?_
              refine TO.n0 (N.stA (vs := arV (arOf s)) rfl rfl sz34 (by (repeat first | exact Put.head _ _ _ | apply Put.tail)) (by simp [frV, arV, fr0, ar0]) (by simp [frV, arV, fr0, ar0, str, Value.oneCell']) (by rfl)) ?_
              rintro _ _ ⟨rfl, rfl⟩
              rw [show setAll _ 0 (arV (arOf s)) = arV (arOf s) from rfl]
              refine TO.p (DP.as (by conv => lhs; whnf)) ?_
              refine TO.nil ?_
              refine TQ.nn ?_
              refine T.ret ?_
              rw [decA_ok s hc0 (Decidable.not_not.1 hg33) (by simpa using hc1)]
              refine TQ.ret (vs := [.agg (arV (arOf s)).toArray, .int .i64 (0 : Nat)]) (L' := []) rfl ⟨RV.atA rfl ag34 sz34 (by (repeat first | exact LMem.head _ _ | apply LMem.tail)) rfl, rfl, rfl⟩ ⟨rfl, rfl⟩ (by (refine Ent.imp ?_; repeat first | exact Imp.refl _ | exact Imp.nil _ | (apply Imp.pull; focus ((repeat first | exact Del.head _ _ | apply Del.tail); done)) | (apply Imp.row; focus ((repeat first | exact Del.head _ _ | apply Del.tail); done)) | apply Imp.drop))
        · rintro u31 _ ⟨_, ⟨rfl, rfl⟩, rfl⟩
          try simp only [List.cons_append, List.nil_append]
          refine ⟨.inr (by (refine Ent.imp ?_; repeat first | exact Imp.refl _ | exact Imp.nil _ | (apply Imp.pull; focus ((repeat first | exact Del.head _ _ | apply Del.tail); done)) | (apply Imp.row; focus ((repeat first | exact Del.head _ _ | apply Del.tail); done)) | apply Imp.drop)), ?_⟩
          refine TR.n 4 (by kernel_rfl) rfl (D.n (D.ldRM (vs := (s.take 6).map byteV) rfl ag74 sz74 (by (repeat first | exact LMem.head _ _ | apply LMem.tail)) (fun i v hv => by rw [Nat.zero_add, List.getElem?_append_left (by rcases Nat.lt_or_ge i ((s.take 6).map byteV).length with h | h; exact h; rw [List.getElem?_eq_none h] at hv; cases hv)]; exact hv) (by simp; omega))) ?_
          rintro _ _ ⟨rfl, rfl⟩
          refine ⟨.inr (by (refine Ent.imp ?_; repeat first | exact Imp.refl _ | exact Imp.nil _ | (apply Imp.pull; focus ((repeat first | exact Del.head _ _ | apply Del.tail); done)) | (apply Imp.row; focus ((repeat first | exact Del.head _ _ | apply Del.tail); done)) | apply Imp.drop)), ?_⟩
          refine TR.p 6 rfl (by kernel_rfl) (DP.to (v' := .bool (decide (s.take 6 ≠ hdE))) (DP.neOf rfl rfl eg74 (fun w => eqBytes Tryd.underlying74 Tryd.underlying5 pl5 sz5 (by simp; omega) rfl w)) (by simp)) ?_
          refine TR.pB 7 rfl (by kernel_rfl) (DP.mv (by conv => lhs; whnf)) (fun hg33 => ?_) (fun hg33 => ?_)
          · refine TR.off 8 rfl (by kernel_rfl) rfl rfl ?_
            refine TR.off 9 rfl (by kernel_rfl) rfl rfl ?_
            refine TR.off 10 rfl (by kernel_rfl) rfl rfl ?_
            refine TR.p 11 rfl (by kernel_rfl) (DP.pkT rfl (by conv => lhs; whnf)) ?_
            refine TR.done (by kernel_rfl) ?_
            refine TQ.nn ?_
            refine T.condT rfl ?_
            refine T.seq ?_
            refine T.reg ?_
            refine TO.p (DP.bdL (vs := []) (us := arV ar0) trivial pc34 zr34 rfl) ?_
            refine TO.n0 (N.stA (vs := arV ar0) rfl rfl sz34 (by (repeat first | exact Put.head _ _ _ | apply Put.tail)) (by simp [frV, arV, fr0, ar0]) (by simp [frV, arV, fr0, ar0, str, Value.oneCell']) (by rfl)) ?_
            rintro _ _ ⟨rfl, rfl⟩
            rw [show setAll _ 0 (arV ar0) = arV ar0 from rfl]
            refine TO.p (DP.as (by conv => lhs; whnf)) ?_
            refine TO.nil ?_
            refine TQ.nn ?_
            refine T.ret ?_
            refine TQ.nr ?_
            rw [decA_bad s hc0 (fun h5 => hg33 h5.1)]
            refine TQ.ret (vs := [.agg (arV ar0).toArray, .int .i64 (8 : Nat)]) (L' := []) rfl ⟨RV.atA rfl ag34 sz34 (by (repeat first | exact LMem.head _ _ | apply LMem.tail)) rfl, rfl, rfl⟩ ⟨rfl, rfl⟩ (by (refine Ent.imp ?_; repeat first | exact Imp.refl _ | exact Imp.nil _ | (apply Imp.pull; focus ((repeat first | exact Del.head _ _ | apply Del.tail); done)) | (apply Imp.row; focus ((repeat first | exact Del.head _ _ | apply Del.tail); done)) | apply Imp.drop))
          · refine TR.don 8 rfl (by kernel_rfl) (by kernel_rfl) (by (refine Ent.imp ?_; repeat first | exact Imp.refl _ | exact Imp.nil _ | (apply Imp.pull; focus ((repeat first | exact Del.head _ _ | apply Del.tail); done)) | (apply Imp.row; focus ((repeat first | exact Del.head _ _ | apply Del.tail); done)) | apply Imp.drop)) rfl (D.ldRA (cs := arV (arOf s)) rfl ag34 sz34 (by (repeat first | exact LMem.head _ _ | apply LMem.tail)) rfl) ?_
            refine TR.non 9 (by kernel_rfl) rfl rfl (N.callF (may_spec (arOf s)) Tryd.call33 ⟨rfl, trivial⟩ (by (repeat first | exact Pick.nil _ | (apply Pick.cons; focus ((repeat first | exact Del.head _ _ | apply Del.tail); done))))) ?_
            rintro u35 _ ⟨_, ⟨rfl, rfl⟩, rfl⟩
            try simp only [List.cons_append, List.nil_append]
            refine ⟨.inl rfl, ?_⟩
            refine TR.pon 10 rfl (by kernel_rfl) rfl (DP.not rfl) ?_
            refine TR.p 11 rfl (by kernel_rfl) (DP.pkF rfl (by conv => lhs; whnf)) ?_
            refine TR.done (by kernel_rfl) ?_
            refine TQ.nn ?_
            refine T.condB rfl (fun hc1 => ?_) (fun hc1 => ?_)
            · refine T.seq ?_
              refine T.reg ?_
              refine TO.p (DP.bdL (vs := []) (us := arV ar0) trivial pc34 zr34 rfl) ?_
              refine TO.n0 (N.stA (vs := arV ar0) rfl rfl sz34 (by (repeat first | exact Put.head _ _ _ | apply Put.tail)) (by simp [frV, arV, fr0, ar0]) (by simp [frV, arV, fr0, ar0, str, Value.oneCell']) (by rfl)) ?_
              rintro _ _ ⟨rfl, rfl⟩
              rw [show setAll _ 0 (arV ar0) = arV ar0 from rfl]
              refine TO.p (DP.as (by conv => lhs; whnf)) ?_
              refine TO.nil ?_
              refine TQ.nn ?_
              refine T.ret ?_
              refine TQ.nr ?_
              rw [decA_bad s hc0 (fun h5 => by rw [h5.2] at hc1; cases hc1)]
              refine TQ.ret (vs := [.agg (arV ar0).toArray, .int .i64 (8 : Nat)]) (L' := []) rfl ⟨RV.atA rfl ag34 sz34 (by (repeat first | exact LMem.head _ _ | apply LMem.tail)) rfl, rfl, rfl⟩ ⟨rfl, rfl⟩ (by (refine Ent.imp ?_; repeat first | exact Imp.refl _ | exact Imp.nil _ | (apply Imp.pull; focus ((repeat first | exact Del.head _ _ | apply Del.tail); done)) | (apply Imp.row; focus ((repeat first | exact Del.head _ _ | apply Del.tail); done)) | apply Imp.drop))
            · refine T.skip ?_
              refine TQ.nn ?_
              refine T.seq ?_
              refine T.reg ?_
              refine TO.d (D.ldRA (cs := arV (arOf s)) rfl ag34 sz34 (by (repeat first | exact LMem.head _ _ | apply LMem.tail)) rfl) ?_
              refine TO.n0 (N.stA (vs := arV (arOf s)) rfl rfl sz34 (by (repeat first | exact Put.head _ _ _ | apply Put.tail)) (by simp [frV, arV, fr0, ar0]) (by simp [frV, arV, fr0, ar0, str, Value.oneCell']) (by rfl)) ?_
              rintro _ _ ⟨rfl, rfl⟩
              rw [show setAll _ 0 (arV (arOf s)) = arV (arOf s) from rfl]
              refine TO.p (DP.as (by conv => lhs; whnf)) ?_
              refine TO.nil ?_
              refine TQ.nn ?_
              refine T.ret ?_
              rw [decA_ok s hc0 (Decidable.not_not.1 hg33) (by simpa using hc1)]
              refine TQ.ret (vs := [.agg (arV (arOf s)).toArray, .int .i64 (0 : Nat)]) (L' := []) rfl ⟨RV.atA rfl ag34 sz34 (by (repeat first | exact LMem.head _ _ | apply LMem.tail)) rfl, rfl, rfl⟩ ⟨rfl, rfl⟩ (by (refine Ent.imp ?_; repeat first | exact Imp.refl _ | exact Imp.nil _ | (apply Imp.pull; focus ((repeat first | exact Del.head _ _ | apply Del.tail); done)) | (apply Imp.row; focus ((repeat first | exact Del.head _ _ | apply Del.tail); done)) | apply Imp.drop))
      · rintro u31 _ ⟨_, ⟨rfl, rfl⟩, rfl⟩
        try simp only [List.cons_append, List.nil_append]
        refine ⟨.inr (by (refine Ent.imp ?_; repeat first | exact Imp.refl _ | exact Imp.nil _ | (apply Imp.pull; focus ((repeat first | exact Del.head _ _ | apply Del.tail); done)) | (apply Imp.row; focus ((repeat first | exact Del.head _ _ | apply Del.tail); done)) | apply Imp.drop)), ?_⟩
        refine TR.n 2 (by kernel_rfl) rfl (N.csb rfl Tryd.underlying9 Tryd.underlying60 Tryd.underlying5) ?_
        rintro _ _ ⟨b28, r28, rfl, rfl⟩
        refine ⟨.inr (by (refine Ent.imp ?_; repeat first | exact Imp.refl _ | exact Imp.nil _ | (apply Imp.pull; focus ((repeat first | exact Del.head _ _ | apply Del.tail); done)) | (apply Imp.row; focus ((repeat first | exact Del.head _ _ | apply Del.tail); done)) | apply Imp.drop)), ?_⟩
        refine TR.p 3 rfl (by kernel_rfl) (DP.s2a rfl Tryd.underlying74 (by simp; omega)) ?_
        refine TR.n 4 (by kernel_rfl) rfl (D.n (D.ldRM (vs := (s.take 6).map byteV) rfl ag74 sz74 (by (repeat first | exact LMem.head _ _ | apply LMem.tail)) (fun i v hv => by rw [Nat.zero_add, List.getElem?_append_left (by rcases Nat.lt_or_ge i ((s.take 6).map byteV).length with h | h; exact h; rw [List.getElem?_eq_none h] at hv; cases hv)]; exact hv) (by simp; omega))) ?_
        rintro _ _ ⟨rfl, rfl⟩
        refine ⟨.inr (by (refine Ent.imp ?_; repeat first | exact Imp.refl _ | exact Imp.nil _ | (apply Imp.pull; focus ((repeat first | exact Del.head _ _ | apply Del.tail); done)) | (apply Imp.row; focus ((repeat first | exact Del.head _ _ | apply Del.tail); done)) | apply Imp.drop)), ?_⟩
        refine TR.p 6 rfl (by kernel_rfl) (DP.to (v' := .bool (decide (s.take 6 ≠ hdE))) (DP.neOf rfl rfl eg74 (fun w => eqBytes Tryd.underlying74 Tryd.underlying5 pl5 sz5 (by simp; omega) rfl w)) (by simp)) ?_
        refine TR.pB 7 rfl (by kernel_rfl) (DP.mv (by conv => lhs; whnf)) (fun hg33 => ?_) (fun hg33 => ?_)
        · refine TR.off 8 rfl (by kernel_rfl) rfl rfl ?_
          refine TR.off 9 rfl (by kernel_rfl) rfl rfl ?_
          refine TR.off 10 rfl (by kernel_rfl) rfl rfl ?_
          refine TR.p 11 rfl (by kernel_rfl) (DP.pkT rfl (by conv => lhs; whnf)) ?_
          refine TR.done (by kernel_rfl) ?_
          refine TQ.nn ?_
          refine T.condT rfl ?_
          refine T.seq ?_
          refine T.reg ?_
          refine TO.p (DP.bdL (vs := []) (us := arV ar0) trivial pc34 zr34 rfl) ?_
          refine TO.n0 (N.stA (vs := arV ar0) rfl rfl sz34 (by (repeat first | exact Put.head _ _ _ | apply Put.tail)) (by simp [frV, arV, fr0, ar0]) (by simp [frV, arV, fr0, ar0, str, Value.oneCell']) (by rfl)) ?_
          rintro _ _ ⟨rfl, rfl⟩
          rw [show setAll _ 0 (arV ar0) = arV ar0 from rfl]
          refine TO.p (DP.as (by conv => lhs; whnf)) ?_
          refine TO.nil ?_
          refine TQ.nn ?_
          refine T.ret ?_
          refine TQ.nr ?_
          rw [decA_bad s hc0 (fun h5 => hg33 h5.1)]
          refine TQ.ret (vs := [.agg (arV ar0).toArray, .int .i64 (8 : Nat)]) (L' := []) rfl ⟨RV.atA rfl ag34 sz34 (by (repeat first | exact LMem.head _ _ | apply LMem.tail)) rfl, rfl, rfl⟩ ⟨rfl, rfl⟩ (by (refine Ent.imp ?_; repeat first | exact Imp.refl _ | exact Imp.nil _ | (apply Imp.pull; focus ((repeat first | exact Del.head _ _ | apply Del.tail); done)) | (apply Imp.row; focus ((repeat first | exact Del.head _ _ | apply Del.tail); done)) | apply Imp.drop))
        · refine TR.don 8 rfl (by kernel_rfl) (by kernel_rfl) (by (refine Ent.imp ?_; repeat first | exact Imp.refl _ | exact Imp.nil _ | (apply Imp.pull; focus ((repeat first | exact Del.head _ _ | apply Del.tail); done)) | (apply Imp.row; focus ((repeat first | exact Del.head _ _ | apply Del.tail); done)) | apply Imp.drop)) rfl (D.ldRA (cs := arV (arOf s)) rfl ag34 sz34 (by (repeat first | exact LMem.head _ _ | apply LMem.tail)) rfl) ?_
          refine TR.non 9 (by kernel_rfl) rfl rfl (N.callF (may_spec (arOf s)) Tryd.call33 ⟨rfl, trivial⟩ (by (repeat first | exact Pick.nil _ | (apply Pick.cons; focus ((repeat first | exact Del.head _ _ | apply Del.tail); done))))) ?_
          rintro u35 _ ⟨_, ⟨rfl, rfl⟩, rfl⟩
          try simp only [List.cons_append, List.nil_append]
          refine ⟨.inl rfl, ?_⟩
          refine TR.pon 10 rfl (by kernel_rfl) rfl (DP.not rfl) ?_
          refine TR.p 11 rfl (by kernel_rfl) (DP.pkF rfl (by conv => lhs; whnf)) ?_
          refine TR.done (by kernel_rfl) ?_
          refine TQ.nn ?_
          refine T.condB rfl (fun hc1 => ?_) (fun hc1 => ?_)
          · refine T.seq ?_
            refine T.reg ?_
            refine TO.p (DP.bdL (vs := []) (us := arV ar0) trivial pc34 zr34 rfl) ?_
            refine TO.n0 (N.stA (vs := arV ar0) rfl rfl sz34 (by (repeat first | exact Put.head _ _ _ | apply Put.tail)) (by simp [frV, arV, fr0, ar0]) (by simp [frV, arV, fr0, ar0, str, Value.oneCell']) (by rfl)) ?_
            rintro _ _ ⟨rfl, rfl⟩
            rw [show setAll _ 0 (arV ar0) = arV ar0 from rfl]
            refine TO.p (DP.as (by conv => lhs; whnf)) ?_
            refine TO.nil ?_
            refine TQ.nn ?_
            refine T.ret ?_
            refine TQ.nr ?_
            rw [decA_bad s hc0 (fun h5 => by rw [h5.2] at hc1; cases hc1)]
            refine TQ.ret (vs := [.agg (arV ar0).toArray, .int .i64 (8 : Nat)]) (L' := []) rfl ⟨RV.atA rfl ag34 sz34 (by (repeat first | exact LMem.head _ _ | apply LMem.tail)) rfl, rfl, rfl⟩ ⟨rfl, rfl⟩ (by (refine Ent.imp ?_; repeat first | exact Imp.refl _ | exact Imp.nil _ | (apply Imp.pull; focus ((repeat first | exact Del.head _ _ | apply Del.tail); done)) | (apply Imp.row; focus ((repeat first | exact Del.head _ _ | apply Del.tail); done)) | apply Imp.drop))
          · refine T.skip ?_
            refine TQ.nn ?_
            refine T.seq ?_
            refine T.reg ?_
            refine TO.d (D.ldRA (cs := arV (arOf s)) rfl ag34 sz34 (by (repeat first | exact LMem.head _ _ | apply LMem.tail)) rfl) ?_
            refine TO.n0 (N.stA (vs := arV (arOf s)) rfl rfl sz34 (by (repeat first | exact Put.head _ _ _ | apply Put.tail)) (by simp [frV, arV, fr0, ar0]) (by simp [frV, arV, fr0, ar0, str, Value.oneCell']) (by rfl)) ?_
            rintro _ _ ⟨rfl, rfl⟩
            rw [show setAll _ 0 (arV (arOf s)) = arV (arOf s) from rfl]
            refine TO.p (DP.as (by conv => lhs; whnf)) ?_
            refine TO.nil ?_
            refine TQ.nn ?_
            refine T.ret ?_
            rw [decA_ok s hc0 (Decidable.not_not.1 hg33) (by simpa using hc1)]
            refine TQ.ret (vs := [.agg (arV (arOf s)).toArray, .int .i64 (0 : Nat)]) (L' := []) rfl ⟨RV.atA rfl ag34 sz34 (by (repeat first | exact LMem.head _ _ | apply LMem.tail)) rfl, rfl, rfl⟩ ⟨rfl, rfl⟩ (by (refine Ent.imp ?_; repeat first | exact Imp.refl _ | exact Imp.nil _ | (apply Imp.pull; focus ((repeat first | exact Del.head _ _ | apply Del.tail); done)) | (apply Imp.row; focus ((repeat first | exact Del.head _ _ | apply Del.tail); done)) | apply Imp.drop))

theorem rdeca_spec (s : List UInt8) (hs : s.length ≤ 1048576) :
    Sat Tryd.prog 23 [str s] [] (fun u L' => u = .tuple #[.agg (arV (decA s).1).toArray, .int .i64 ((decA s).2 : Nat)] ∧ L' = []) := by
  refine Sat.enter Tryd.func23 rfl Tryd.ntmps23 rfl (fun c R => ?_)
  try simp only [List.cons_append, List.nil_append]
  refine T.seq ?_
  refine T.reg ?_
  refine TO.n (N.alA zr34) ?_
  rintro _ _ ⟨b2, rfl, rfl⟩
  refine TO.p (DP.as (by conv => lhs; whnf)) ?_
  refine TO.nil ?_
  refine TQ.nn ?_
  refine T.seq ?_
  refine T.seq ?_
  refine T.reg ?_
  refine TO.p (DP.mv (by conv => lhs; whnf)) ?_
  refine TO.p (DP.lenT rfl Tryd.underlying9) ?_
  refine TO.p ((by first | exact DP.lss (b := 28) rfl rfl | exact DP.lssI rfl rfl)) ?_
  refine TO.nil ?_
  refine TQ.nn ?_
  refine T.condD rfl (fun hc0 => ?_) (fun hc0 => ?_)
  · refine T.seq ?_
    refine T.reg ?_
    refine TO.p (DP.bdL (vs := []) (us := arV ar0) trivial pc34 zr34 rfl) ?_
    refine TO.n0 (N.stA (vs := arV ar0) rfl rfl sz34 (by (repeat first | exact Put.head _ _ _ | apply Put.tail)) (by simp [frV, arV, fr0, ar0]) (by simp [frV, arV, fr0, ar0, str, Value.oneCell']) (by rfl)) ?_
    rintro _ _ ⟨rfl, rfl⟩
    rw [show setAll _ 0 (arV ar0) = arV ar0 from rfl]
    refine TO.p (DP.as (by conv => lhs; whnf)) ?_
    refine TO.nil ?_
    refine TQ.nn ?_
    refine T.ret ?_
    refine TQ.nr ?_
    rw [decA_short s hc0]
    refine TQ.ret (vs := [.agg (arV ar0).toArray, .int .i64 (7 : Nat)]) (L' := []) rfl ⟨RV.atA rfl ag34 sz34 (by (repeat first | exact LMem.head _ _ | apply LMem.tail)) rfl, rfl, rfl⟩ ⟨rfl, rfl⟩ (by (refine Ent.imp ?_; repeat first | exact Imp.refl _ | exact Imp.nil _ | (apply Imp.pull; focus ((repeat first | exact Del.head _ _ | apply Del.tail); done)) | (apply Imp.row; focus ((repeat first | exact Del.head _ _ | apply Del.tail); done)) | apply Imp.drop))
  · refine T.skip ?_
    refine TQ.nn ?_
    refine T.seq ?_
    refine T.drawL [2, 8, 14, 17, 18] mixed (by repeat first | exact Calm.rt | apply Calm.t | apply Calm.b | apply Calm.l | apply Calm.ct) ?_
    refine TR.p 0 rfl (by kernel_rfl) (DP.mv (by conv => lhs; whnf)) ?_
    refine TR.p 1 rfl (by kernel_rfl) (DP.slT (i := 6) (j := 8) rfl rfl rfl Tryd.underlying9 (by omega) (by omega)) ?_
    refine TR.p 4 rfl (by kernel_rfl) (DP.mv (by conv => lhs; whnf)) ?_
    refine TR.p 5 rfl (by kernel_rfl) (DP.slT (i := 8) (j := 14) rfl rfl rfl Tryd.underlying9 (by omega) (by omega)) ?_
    refine TR.p 6 rfl (by kernel_rfl) (DP.mv (by conv => lhs; whnf)) ?_
    refine TR.p 7 rfl (by kernel_rfl) (DP.slT (i := 14) (j := 18) rfl rfl rfl Tryd.underlying9 (by omega) (by omega)) ?_
    refine TR.p 10 rfl (by kernel_rfl) (DP.mv (by conv => lhs; whnf)) ?_
    refine TR.p 11 rfl (by kernel_rfl) (DP.slT (i := 18) (j := 24) rfl rfl rfl Tryd.underlying9 (by omega) (by omega)) ?_
    refine TR.p 12 rfl (by kernel_rfl) (DP.mv (by conv => lhs; whnf)) ?_
    refine TR.p 13 rfl (by kernel_rfl) (DP.slT (i := 24) (j := 28) rfl rfl rfl Tryd.underlying9 (by omega) (by omega)) ?_
    refine TR.two 2 17 (by kernel_rfl) rfl (N.callF (rvalue_spec ((s.take 8).drop 6) (by simp; omega)) Tryd.call45 ⟨rfl, trivial⟩ (by (repeat first | exact Pick.nil _ | (apply Pick.cons; focus ((repeat first | exact Del.head _ _ | apply Del.tail); done))))) rfl (N.alA zr34) ?_ ?_
    · rintro u11 _ ⟨_, ⟨rfl, rfl⟩, rfl⟩
      try simp only [List.cons_append, List.nil_append]
      refine ⟨.inl rfl, ?_⟩
      refine TR.p 3 rfl (by kernel_rfl) (DP.to (v' := .int .u16 (valE ((s.take 8).drop 6) % 65536 : Nat)) (DP.cvW rfl is31 Tryd.underlying22 rfl (l := 65536) rfl) rfl) ?_
      refine TR.two 8 17 (by kernel_rfl) rfl (N.callF (rvalue_spec ((s.take 18).drop 14) (by simp; omega)) Tryd.call45 ⟨rfl, trivial⟩ (by (repeat first | exact Pick.nil _ | (apply Pick.cons; focus ((repeat first | exact Del.head _ _ | apply Del.tail); done))))) rfl (N.alA zr34) ?_ ?_
      · rintro u17 _ ⟨_, ⟨rfl, rfl⟩, rfl⟩
        try simp only [List.cons_append, List.nil_append]
        refine ⟨.inl rfl, ?_⟩
        refine TR.p 9 rfl (by kernel_rfl) (DP.to (v' := .int .u32 (valE ((s.take 18).drop 14) % 4294967296 : Nat)) (DP.cvW rfl is31 Tryd.underlying26 rfl (l := 4294967296) rfl) rfl) ?_
        refine TR.two 14 17 (by kernel_rfl) rfl (N.callF (rvalue_spec ((s.take 28).drop 24) (by simp; omega)) Tryd.call45 ⟨rfl, trivial⟩ (by (repeat first | exact Pick.nil _ | (apply Pick.cons; focus ((repeat first | exact Del.head _ _ | apply Del.tail); done))))) rfl (N.alA zr34) ?_ ?_
        · rintro u23 _ ⟨_, ⟨rfl, rfl⟩, rfl⟩
          try simp only [List.cons_append, List.nil_append]
          refine ⟨.inl rfl, ?_⟩
          refine TR.p 15 rfl (by kernel_rfl) (DP.to (v' := .int .u32 (valE ((s.take 28).drop 24) % 4294967296 : Nat)) (DP.cvW rfl is31 Tryd.underlying26 rfl (l := 4294967296) rfl) rfl) ?_
          refine TR.p 16 rfl (by kernel_rfl) (DP.bdL (vs := [(0, _), (1, _), (2, _), (3, _), (4, _)]) (us := arV (arOf s)) ⟨rfl, rfl, rfl, rfl, rfl, rfl, rfl, rfl, rfl, rfl, trivial⟩ pc34 zr34 rfl) ?_
          refine TR.n 17 (by kernel_rfl) rfl (N.alA zr34) ?_
          rintro _ _ ⟨b4, rfl, rfl⟩
          refine ⟨.inl rfl, ?_⟩
          refine TR.n0 18 (by kernel_rfl) rfl (N.stA (vs := arV (arOf s)) rfl rfl sz34 (by (repeat first | exact Put.head _ _ _ | apply Put.tail)) (by simp [frV, arV, fr0, ar0]) (by simp [frV, arV, fr0, ar0, str, Value.oneCell']) (by rfl)) ?_
          rintro _ _ ⟨rfl, rfl⟩
          rw [show setAll _ 0 (arV (arOf s)) = arV (arOf s) from rfl]
          refine ⟨.inl rfl, ?_⟩
          refine TR.done (by kernel_rfl) ?_
          refine TQ.nn ?_
          refine T.seq ?_
          refine T.seq ?_
          refine T.reg ?_
          refine TO.p (DP.mv (by conv => lhs; whnf)) ?_
          refine TO.p (DP.slTh (j := 6) rfl rfl Tryd.underlying9 (by omega)) ?_
          refine TO.p (DP.tneq (m := hdE) rfl rfl) ?_
          refine TO.pB (DP.mv (by conv => lhs; whnf)) (fun hg29 => ?_) (fun hg29 => ?_)
          · refine TO.off rfl rfl ?_
            refine TO.off rfl rfl ?_
            refine TO.off rfl rfl ?_
            refine TO.p (DP.pkT rfl (by conv => lhs; whnf)) ?_
            refine TO.nil ?_
            refine TQ.nn ?_
            refine T.condT rfl ?_
            refine T.seq ?_
            refine T.reg ?_
            refine TO.p (DP.bdL (vs := []) (us := arV ar0) trivial pc34 zr34 rfl) ?_
            refine TO.n0 (N.stA (vs := arV ar0) rfl rfl sz34 (by (repeat first | exact Put.head _ _ _ | apply Put.tail)) (by simp [frV, arV, fr0, ar0]) (by simp [frV, arV, fr0, ar0, str, Value.oneCell']) (by rfl)) ?_
            rintro _ _ ⟨rfl, rfl⟩
            rw [show setAll _ 0 (arV ar0) = arV ar0 from rfl]
            refine TO.p (DP.as (by conv => lhs; whnf)) ?_
            refine TO.nil ?_
            refine TQ.nn ?_
            refine T.ret ?_
            refine TQ.nr ?_
            rw [decA_bad s hc0 (fun h5 => hg29 h5.1)]
            refine TQ.ret (vs := [.agg (arV ar0).toArray, .int .i64 (8 : Nat)]) (L' := []) rfl ⟨RV.atA rfl ag34 sz34 (by (repeat first | exact LMem.head _ _ | apply LMem.tail)) rfl, rfl, rfl⟩ ⟨rfl, rfl⟩ (by (refine Ent.imp ?_; repeat first | exact Imp.refl _ | exact Imp.nil _ | (apply Imp.pull; focus ((repeat first | exact Del.head _ _ | apply Del.tail); done)) | (apply Imp.row; focus ((repeat first | exact Del.head _ _ | apply Del.tail); done)) | apply Imp.drop))
          · refine TO.onD rfl (D.ldRA (cs := arV (arOf s)) rfl ag34 sz34 (by (repeat first | exact LMem.head _ _ | apply LMem.tail)) rfl) ?_
            refine TO.on rfl (N.callF (rmay_spec (arOf s)) Tryd.call43 ⟨rfl, trivial⟩ (by (repeat first | exact Pick.nil _ | (apply Pick.cons; focus ((repeat first | exact Del.head _ _ | apply Del.tail); done))))) ?_
            rintro u31 _ ⟨_, ⟨rfl, rfl⟩, rfl⟩
            try simp only [List.cons_append, List.nil_append]
            refine TO.onP rfl (DP.not rfl) ?_
            refine TO.p (DP.pkF rfl (by conv => lhs; whnf)) ?_
            refine TO.nil ?_
            refine TQ.nn ?_
            refine T.condB rfl (fun hc1 => ?_) (fun hc1 => ?_)
            · refine T.seq ?_
              refine T.reg ?_
              refine TO.p (DP.bdL (vs := []) (us := arV ar0) trivial pc34 zr34 rfl) ?_
              refine TO.n0 (N.stA (vs := arV ar0) rfl rfl sz34 (by (repeat first | exact Put.head _ _ _ | apply Put.tail)) (by simp [frV, arV, fr0, ar0]) (by simp [frV, arV, fr0, ar0, str, Value.oneCell']) (by rfl)) ?_
              rintro _ _ ⟨rfl, rfl⟩
              rw [show setAll _ 0 (arV ar0) = arV ar0 from rfl]
              refine TO.p (DP.as (by conv => lhs; whnf)) ?_
              refine TO.nil ?_
              refine TQ.nn ?_
              refine T.ret ?_
              refine TQ.nr ?_
              rw [decA_bad s hc0 (fun h5 => by rw [h5.2] at hc1; cases hc1)]
              refine TQ.ret (vs := [.agg (arV ar0).toArray, .int .i64 (8 : Nat)]) (L' := []) rfl ⟨RV.atA rfl ag34 sz34 (by (repeat first | exact LMem.head _ _ | apply LMem.tail)) rfl, rfl, rfl⟩ ⟨rfl, rfl⟩ (by (refine Ent.imp ?_; repeat first | exact Imp.refl _ | exact Imp.nil _ | (apply Imp.pull; focus ((repeat first | exact Del.head _ _ | apply Del.tail); done)) | (apply Imp.row; focus ((repeat first | exact Del.head _ _ | apply Del.tail); done)) | apply Imp.drop))
            · refine T.skip ?_
              refine TQ.nn ?_
              refine T.seq ?_
              refine T.reg ?_
              refine TO.d (D.ldRA (cs := arV (arOf s)) rfl ag34 sz34 (by (repeat first | exact LMem.head _ _ | apply LMem.tail)) rfl) ?_
              refine TO.n0 (N.stA (vs := arV (arOf s)) rfl rfl sz34 (by (repeat first | exact Put.head _ _ _ | apply Put.tail)) (by simp [frV, arV, fr0, ar0]) (by simp [frV, arV, fr0, ar0, str, Value.oneCell']) (by rfl)) ?_
              rintro _ _ ⟨rfl, rfl⟩
              rw [show setAll _ 0 (arV (arOf s)) = arV (arOf s) from rfl]
              refine TO.p (DP.as (by conv => lhs; whnf)) ?_
              refine TO.nil ?_
              refine TQ.nn ?_
              refine T.ret ?_
              rw [decA_ok s hc0 (Decidable.not_not.1 hg29) (by simpa using hc1)]
              refine TQ.ret (vs := [.agg (arV (arOf s)).toArray, .int .i64 (0 : Nat)]) (L' := []) rfl ⟨RV.atA rfl ag34 sz34 (by (repeat first | exact LMem.head _ _ | apply LMem.tail)) rfl, rfl, rfl⟩ ⟨rfl, rfl⟩ (by (refine Ent.imp ?_; repeat first | exact Imp.refl _ | exact Imp.nil _ | (apply Imp.pull; focus ((repeat first | exact Del.head _ _ | apply Del.tail); done)) | (apply Imp.row; focus ((repeat first | exact Del.head _ _ | apply Del.tail); done)) | apply Imp.drop))
        · rintro _ _ ⟨b4, rfl, rfl⟩
          refine ⟨.inl rfl, ?_⟩
          refine TR.n 14 (by kernel_rfl) rfl (N.callF (rvalue_spec ((s.take 28).drop 24) (by simp; omega)) Tryd.call45 ⟨rfl, trivial⟩ (by (repeat first | exact Pick.nil _ | (apply Pick.cons; focus ((repeat first | exact Del.head _ _ | apply Del.tail); done))))) ?_
          rintro u23 _ ⟨_, ⟨rfl, rfl⟩, rfl⟩
          try simp only [List.cons_append, List.nil_append]
          refine ⟨.inl rfl, ?_⟩
          refine TR.p 15 rfl (by kernel_rfl) (DP.to (v' := .int .u32 (valE ((s.take 28).drop 24) % 4294967296 : Nat)) (DP.cvW rfl is31 Tryd.underlying26 rfl (l := 4294967296) rfl) rfl) ?_
          refine TR.p 16 rfl (by kernel_rfl) (DP.bdL (vs := [(0, _), (1, _), (2, _), (3, _), (4, _)]) (us := arV (arOf s)) ⟨rfl, rfl, rfl, rfl, rfl, rfl, rfl, rfl, rfl, rfl, trivial⟩ pc34 zr34 rfl) ?_
          refine TR.n0 18 (by kernel_rfl) rfl (N.stA (vs := arV (arOf s)) rfl rfl sz34 (by (repeat first | exact Put.head _ _ _ | apply Put.tail)) (by simp [frV, arV, fr0, ar0]) (by simp [frV, arV, fr0, ar0, str, Value.oneCell']) (by rfl)) ?_
          rintro _ _ ⟨rfl, rfl⟩
          rw [show setAll _ 0 (arV (arOf s)) = arV (arOf s) from rfl]
          refine ⟨.inl rfl, ?_⟩
          refine TR.done (by kernel_rfl) ?_
          refine TQ.nn ?_
          refine T.seq ?_
          refine T.seq ?_
          refine T.reg ?_
          refine TO.p (DP.mv (by conv => lhs; whnf)) ?_
          refine TO.p (DP.slTh (j := 6) rfl rfl Tryd.underlying9 (by omega)) ?_
          refine TO.p (DP.tneq (m := hdE) rfl rfl) ?_
          refine TO.pB (DP.mv (by conv => lhs; whnf)) (fun hg29 => ?_) (fun hg29 => ?_)
          · refine TO.off rfl rfl ?_
            refine TO.off rfl rfl ?_
            refine TO.off rfl rfl ?_
            refine TO.p (DP.pkT rfl (by conv => lhs; whnf)) ?_
            refine TO.nil ?_
            refine TQ.nn ?_
            refine T.condT rfl ?_
            refine T.seq ?_
            refine T.reg ?_
            refine TO.p (DP.bdL (vs := []) (us := arV ar0) trivial pc34 zr34 rfl) ?_
            refine TO.n0 (N.stA (vs := arV ar0) rfl rfl sz34 (by (repeat first | exact Put.head _ _ _ | apply Put.tail)) (by simp [frV, arV, fr0, ar0]) (by simp [frV, arV, fr0, ar0, str, Value.oneCell']) (by rfl)) ?_
            rintro _ _ ⟨rfl, rfl⟩
            rw [show setAll _ 0 (arV ar0) = arV ar0 from rfl]
            refine TO.p (DP.as (by conv => lhs; whnf)) ?_
            refine TO.nil ?_
            refine TQ.nn ?_
            refine T.ret ?_
            refine TQ.nr ?_
            rw [decA_bad s hc0 (fun h5 => hg29 h5.1)]
            refine TQ.ret (vs := [.agg (arV ar0).toArray, .int .i64 (8 : Nat)]) (L' := []) rfl ⟨RV.atA rfl ag34 sz34 (by (repeat first | exact LMem.head _ _ | apply LMem.tail)) rfl, rfl, rfl⟩ ⟨rfl, rfl⟩ (by (refine Ent.imp ?_; repeat first | exact Imp.refl _ | exact Imp.nil _ | (apply Imp.pull; focus ((repeat first | exact Del.head _ _ | apply Del.tail); done)) | (apply Imp.row; focus ((repeat first | exact Del.head _ _ | apply Del.tail); done)) | apply Imp.drop))
          · refine TO.onD rfl (D.ldRA (cs := arV (arOf s)) rfl ag34 sz34 (by (repeat first | exact LMem.head _ _ | apply LMem.tail)) rfl) ?_
            refine TO.on rfl (N.callF (rmay_spec (arOf s)) Tryd.call43 ⟨rfl, trivial⟩ (by (repeat first | exact Pick.nil _ | (apply Pick.cons; focus ((repeat first | exact Del.head _ _ | apply Del.tail); done))))) ?_
            rintro u31 _ ⟨_, ⟨rfl, rfl⟩, rfl⟩
            try simp only [List.cons_append, List.nil_append]
            refine TO.onP rfl (DP.not rfl) ?_
            refine TO.p (DP.pkF rfl (by conv => lhs; whnf)) ?_
            refine TO.nil ?_
            refine TQ.nn ?_
            refine T.condB rfl (fun hc1 => ?_) (fun hc1 => ?_)
            · refine T.seq ?_
              refine T.reg ?_
              refine TO.p (DP.bdL (vs := []) (us := arV ar0) trivial pc34 zr34 rfl) ?_
              refine TO.n0 (N.stA (vs := arV ar0) rfl rfl sz34 (by (repeat first | exact Put.head _ _ _ | apply Put.tail)) (by simp [frV, arV, fr0, ar0]) (by simp [frV, arV, fr0, ar0, str, Value.oneCell']) (by rfl)) ?_
              rintro _ _ ⟨rfl, rfl⟩
              rw [show setAll _ 0 (arV ar0) = arV ar0 from rfl]
              refine TO.p (DP.as (by conv => lhs; whnf)) ?_
              refine TO.nil ?_
              refine TQ.nn ?_
              refine T.ret ?_
              refine TQ.nr ?_
              rw [decA_bad s hc0 (fun h5 => by rw [h5.2] at hc1; cases hc1)]
              refine TQ.ret (vs := [.agg (arV ar0).toArray, .int .i64 (8 : Nat)]) (L' := []) rfl ⟨RV.atA rfl ag34 sz34 (by (repeat first | exact LMem.head _ _ | apply LMem.tail)) rfl, rfl, rfl⟩ ⟨rfl, rfl⟩ (by (refine Ent.imp ?_; repeat first | exact Imp.refl _ | exact Imp.nil _ | (apply Imp.pull; focus ((repeat first | exact Del.head _ _ | apply Del.tail); done)) | (apply Imp.row; focus ((repeat first | exact Del.head _ _ | apply Del.tail); done)) | apply Imp.drop))
            · refine T.skip ?_
              refine TQ.nn ?_
              refine T.seq ?_
              refine T.reg ?_
              refine TO.d (D.ldRA (cs := arV (arOf s)) rfl ag34 sz34 (by (repeat first | exact LMem.head _ _ | apply LMem.tail)) rfl) ?_
              refine TO.n0 (N.stA (vs := arV (arOf s)) rfl rfl sz34 (by (repeat first | exact Put.head _ _ _ | apply Put.tail)) (by simp [frV, arV, fr0, ar0]) (by simp [frV, arV, fr0, ar0, str, Value.oneCell']) (by rfl)) ?_
              rintro _ _ ⟨rfl, rfl⟩
              rw [show setAll _ 0 (arV (arOf s)) = arV (arOf s) from rfl]
              refine TO.p (DP.as (by conv => lhs; whnf)) ?_
              refine TO.nil ?_
              refine TQ.nn ?_
              refine T.ret ?_
              rw [decA_ok s hc0 (Decidable.not_not.1 hg29) (by simpa using hc1)]
              refine TQ.ret (vs := [.agg (arV (arOf s)).toArray, .int .i64 (0 : Nat)]) (L' := []) rfl ⟨RV.atA rfl ag34 sz34 (by (repeat first | exact LMem.head _ _ | apply LMem.tail)) rfl, rfl, rfl⟩ ⟨rfl, rfl⟩ (by (refine Ent.imp ?_; repeat first | exact Imp.refl _ | exact Imp.nil _ | (apply Imp.pull; focus ((repeat first | exact Del.head _ _ | apply Del.tail); done)) | (apply Imp.row; focus ((repeat first | exact Del.head _ _ | apply Del.tail); done)) | apply Imp.drop))
      · rintro _ _ ⟨b4, rfl, rfl⟩
        refine ⟨.inl rfl, ?_⟩
        refine TR.n 8 (by kernel_rfl) rfl (N.callF (rvalue_spec ((s.take 18).drop 14) (by simp; omega)) Tryd.call45 ⟨rfl, trivial⟩ (by (repeat first | exact Pick.nil _ | (apply Pick.cons; focus ((repeat first | exact Del.head _ _ | apply Del.tail); done))))) ?_
        rintro u17 _ ⟨_, ⟨rfl, rfl⟩, rfl⟩
        try simp only [List.cons_append, List.nil_append]
        refine ⟨.inl rfl, ?_⟩
        refine TR.p 9 rfl (by kernel_rfl) (DP.to (v' := .int .u32 (valE ((s.take 18).drop 14) % 4294967296 : Nat)) (DP.cvW rfl is31 Tryd.underlying26 rfl (l := 4294967296) rfl) rfl) ?_
        refine TR.n 14 (by kernel_rfl) rfl (N.callF (rvalue_spec ((s.take 28).drop 24) (by simp; omega)) Tryd.call45 ⟨rfl, trivial⟩ (by (repeat first | exact Pick.nil _ | (apply Pick.cons; focus ((repeat first | exact Del.head _ _ | apply Del.tail); done))))) ?_
        rintro u23 _ ⟨_, ⟨rfl, rfl⟩, rfl⟩
        try simp only [List.cons_append, List.nil_append]
        refine ⟨.inl rfl, ?_⟩
        refine TR.p 15 rfl (by kernel_rfl) (DP.to (v' := .int .u32 (valE ((s.take 28).drop 24) % 4294967296 : Nat)) (DP.cvW rfl is31 Tryd.underlying26 rfl (l := 4294967296) rfl) rfl) ?_
        refine TR.p 16 rfl (by kernel_rfl) (DP.bdL (vs := [(0, _), (1, _), (2, _), (3, _), (4, _)]) (us := arV (arOf s)) ⟨rfl, rfl, rfl, rfl, rfl, rfl, rfl, rfl, rfl, rfl, trivial⟩ pc34 zr34 rfl) ?_
        refine TR.n0 18 (by kernel_rfl) rfl (N.stA (vs := arV (arOf s)) rfl rfl sz34 (by (repeat first | exact Put.head _ _ _ | apply Put.tail)) (by simp [frV, arV, fr0, ar0]) (by simp [frV, arV, fr0, ar0, str, Value.oneCell']) (by rfl)) ?_
        rintro _ _ ⟨rfl, rfl⟩
        rw [show setAll _ 0 (arV (arOf s)) = arV (arOf s) from rfl]
        refine ⟨.inl rfl, ?_⟩
        refine TR.done (by kernel_rfl) ?_
        refine TQ.nn ?_
        refine T.seq ?_
        refine T.seq ?_
        refine T.reg ?_
        refine TO.p (DP.mv (by conv => lhs; whnf)) ?_
        refine TO.p (DP.slTh (j := 6) rfl rfl Tryd.underlying9 (by omega)) ?_
        refine TO.p (DP.tneq (m := hdE) rfl rfl) ?_
        refine TO.pB (DP.mv (by conv => lhs; whnf)) (fun hg29 => ?_) (fun hg29 => ?_)
        · refine TO.off rfl rfl ?_
          refine TO.off rfl rfl ?_
          refine TO.off rfl rfl ?_
          refine TO.p (DP.pkT rfl (by conv => lhs; whnf)) ?_
          refine TO.nil ?_
          refine TQ.nn ?_
          refine T.condT rfl ?_
          refine T.seq ?_
          refine T.reg ?_
          refine TO.p (DP.bdL (vs := []) (us := arV ar0) trivial pc34 zr34 rfl) ?_
          refine TO.n0 (N.stA (vs := arV ar0) rfl rfl sz34 (by (repeat first | exact Put.head _ _ _ | apply Put.tail)) (by simp [frV, arV, fr0, ar0]) (by simp [frV, arV, fr0, ar0, str, Value.oneCell']) (by rfl)) ?_
          rintro _ _ ⟨rfl, rfl⟩
          rw [show setAll _ 0 (arV ar0) = arV ar0 from rfl]
          refine TO.p (DP.as (by conv => lhs; whnf)) ?_
          refine TO.nil ?_
          refine TQ.nn ?_
          refine T.ret ?_
          refine TQ.nr ?_
          rw [decA_bad s hc0 (fun h5 => hg29 h5.1)]
          refine TQ.ret (vs := [.agg (arV ar0).toArray, .int .i64 (8 : Nat)]) (L' := []) rfl ⟨RV.atA rfl ag34 sz34 (by (repeat first | exact LMem.head _ _ | apply LMem.tail)) rfl, rfl, rfl⟩ ⟨rfl, rfl⟩ (by (refine Ent.imp ?_; repeat first | exact Imp.refl _ | exact Imp.nil _ | (apply Imp.pull; focus ((repeat first | exact Del.head _ _ | apply Del.tail); done)) | (apply Imp.row; focus ((repeat first | exact Del.head _ _ | apply Del.tail); done)) | apply Imp.drop))
        · refine TO.onD rfl (D.ldRA (cs := arV (arOf s)) rfl ag34 sz34 (by (repeat first | exact LMem.head _ _ | apply LMem.tail)) rfl) ?_
          refine TO.on rfl (N.callF (rmay_spec (arOf s)) Tryd.call43 ⟨rfl, trivial⟩ (by (repeat first | exact Pick.nil _ | (apply Pick.cons; focus ((repeat first | exact Del.head _ _ | apply Del.tail); done))))) ?_
          rintro u31 _ ⟨_, ⟨rfl, rfl⟩, rfl⟩
          try simp only [List.cons_append, List.nil_append]
          refine TO.onP rfl (DP.not rfl) ?_
          refine TO.p (DP.pkF rfl (by conv => lhs; whnf)) ?_
          refine TO.nil ?_
          refine TQ.nn ?_
          refine T.condB rfl (fun hc1 => ?_) (fun hc1 => ?_)
          · refine T.seq ?_
            refine T.reg ?_
            refine TO.p (DP.bdL (vs := []) (us := arV ar0) trivial pc34 zr34 rfl) ?_
            refine TO.n0 (N.stA (vs := arV ar0) rfl rfl sz34 (by (repeat first | exact Put.head _ _ _ | apply Put.tail)) (by simp [frV, arV, fr0, ar0]) (by simp [frV, arV, fr0, ar0, str, Value.oneCell']) (by rfl)) ?_
            rintro _ _ ⟨rfl, rfl⟩
            rw [show setAll _ 0 (arV ar0) = arV ar0 from rfl]
            refine TO.p (DP.as (by conv => lhs; whnf)) ?_
            refine TO.nil ?_
            refine TQ.nn ?_
            refine T.ret ?_
            refine TQ.nr ?_
            rw [decA_bad s hc0 (fun h5 => by rw [h5.2] at hc1; cases hc1)]
            refine TQ.ret (vs := [.agg (arV ar0).toArray, .int .i64 (8 : Nat)]) (L' := []) rfl ⟨RV.atA rfl ag34 sz34 (by (repeat first | exact LMem.head _ _ | apply LMem.tail)) rfl, rfl, rfl⟩ ⟨rfl, rfl⟩ (by (refine Ent.imp ?_; repeat first | exact Imp.refl _ | exact Imp.nil _ | (apply Imp.pull; focus ((repeat first | exact Del.head _ _ | apply Del.tail); done)) | (apply Imp.row; focus ((repeat first | exact Del.head _ _ | apply Del.tail); done)) | apply Imp.drop))
          · refine T.skip ?_
            refine TQ.nn ?_
            refine T.seq ?_
            refine T.reg ?_
            refine TO.d (D.ldRA (cs := arV (arOf s)) rfl ag34 sz34 (by (repeat first | exact LMem.head _ _ | apply LMem.tail)) rfl) ?_
            refine TO.n0 (N.stA (vs := arV (arOf s)) rfl rfl sz34 (by (repeat first | exact Put.head _ _ _ | apply Put.tail)) (by simp [frV, arV, fr0, ar0]) (by simp [frV, arV, fr0, ar0, str, Value.oneCell']) (by rfl)) ?_
            rintro _ _ ⟨rfl, rfl⟩
            rw [show setAll _ 0 (arV (arOf s)) = arV (arOf s) from rfl]
            refine TO.p (DP.as (by conv => lhs; whnf)) ?_
            refine TO.nil ?_
            refine TQ.nn ?_
            refine T.ret ?_
            rw [decA_ok s hc0 (Decidable.not_not.1 hg29) (by simpa using hc1)]
            refine TQ.ret (vs := [.agg (arV (arOf s)).toArray, .int .i64 (0 : Nat)]) (L' := []) rfl ⟨RV.atA rfl ag34 sz34 (by (repeat first | exact LMem.head _ _ | apply LMem.tail)) rfl, rfl, rfl⟩ ⟨rfl, rfl⟩ (by (refine Ent.imp ?_; repeat first | exact Imp.refl _ | exact Imp.nil _ | (apply Imp.pull; focus ((repeat first | exact Del.head _ _ | apply Del.tail); done)) | (apply Imp.row; focus ((repeat first | exact Del.head _ _ | apply Del.tail); done)) | apply Imp.drop))
    · rintro _ _ ⟨b4, rfl, rfl⟩
      refine ⟨.inl rfl, ?_⟩
      refine TR.n 2 (by kernel_rfl) rfl (N.callF (rvalue_spec ((s.take 8).drop 6) (by simp; omega)) Tryd.call45 ⟨rfl, trivial⟩ (by (repeat first | exact Pick.nil _ | (apply Pick.cons; focus ((repeat first | exact Del.head _ _ | apply Del.tail); done))))) ?_
      rintro u11 _ ⟨_, ⟨rfl, rfl⟩, rfl⟩
      try simp only [List.cons_append, List.nil_append]
      refine ⟨.inl rfl, ?_⟩
      refine TR.p 3 rfl (by kernel_rfl) (DP.to (v' := .int .u16 (valE ((s.take 8).drop 6) % 65536 : Nat)) (DP.cvW rfl is31 Tryd.underlying22 rfl (l := 65536) rfl) rfl) ?_
      refine TR.n 8 (by kernel_rfl) rfl (N.callF (rvalue_spec ((s.take 18).drop 14) (by simp; omega)) Tryd.call45 ⟨rfl, trivial⟩ (by (repeat first | exact Pick.nil _ | (apply Pick.cons; focus ((repeat first | exact Del.head _ _ | apply Del.tail); done))))) ?_
      rintro u17 _ ⟨_, ⟨rfl, rfl⟩, rfl⟩
      try simp only [List.cons_append, List.nil_append]
      refine ⟨.inl rfl, ?_⟩
      refine TR.p 9 rfl (by kernel_rfl) (DP.to (v' := .int .u32 (valE ((s.take 18).drop 14) % 4294967296 : Nat)) (DP.cvW rfl is31 Tryd.underlying26 rfl (l := 4294967296) rfl) rfl) ?_
      refine TR.n 14 (by kernel_rfl) rfl (N.callF (rvalue_spec ((s.take 28).drop 24) (by simp; omega)) Tryd.call45 ⟨rfl, trivial⟩ (by (repeat first | exact Pick.nil _ | (apply Pick.cons; focus ((repeat first | exact Del.head _ _ | apply Del.tail); done))))) ?_
      rintro u23 _ ⟨_, ⟨rfl, rfl⟩, rfl⟩
      try simp only [List.cons_append, List.nil_append]
      refine ⟨.inl rfl, ?_⟩
      refine TR.p 15 rfl (by kernel_rfl) (DP.to (v' := .int .u32 (valE ((s.take 28).drop 24) % 4294967296 : Nat)) (DP.cvW rfl is31 Tryd.underlying26 rfl (l := 4294967296) rfl) rfl) ?_
      refine TR.p 16 rfl (by kernel_rfl) (DP.bdL (vs := [(0, _), (1, _), (2, _), (3, _), (4, _)]) (us := arV (arOf s)) ⟨rfl, rfl, rfl, rfl, rfl, rfl, rfl, rfl, rfl, rfl, trivial⟩ pc34 zr34 rfl) ?_
      refine TR.n0 18 (by kernel_rfl) rfl (N.stA (vs := arV (arOf s)) rfl rfl sz34 (by (repeat first | exact Put.head _ _ _ | apply Put.tail)) (by simp [frV, arV, fr0, ar0]) (by simp [frV, arV, fr0, ar0, str, Value.oneCell']) (by rfl)) ?_
      rintro _ _ ⟨rfl, rfl⟩
      rw [show setAll _ 0 (arV (arOf s)) = arV (arOf s) from rfl]
      refine ⟨.inl rfl, ?_⟩
      refine TR.done (by kernel_rfl) ?_
      refine TQ.nn ?_
      refine T.seq ?_
      refine T.seq ?_
      refine T.reg ?_
      refine TO.p (DP.mv (by conv => lhs; whnf)) ?_
      refine TO.p (DP.slTh (j := 6) rfl rfl Tryd.underlying9 (by omega)) ?_
      refine TO.p (DP.tneq (m := hdE) rfl rfl) ?_
      refine TO.pB (DP.mv (by conv => lhs; whnf)) (fun hg29 => ?_) (fun hg29 => ?_)
      · refine TO.off rfl rfl ?_
        refine TO.off rfl rfl ?_
        refine TO.off rfl rfl ?_
        refine TO.p (DP.pkT rfl (by conv => lhs; whnf)) ?_
        refine TO.nil ?_
        refine TQ.nn ?_
        refine T.condT rfl ?_
        refine T.seq ?_
        refine T.reg ?_
        refine TO.p (DP.bdL (vs := []) (us := arV ar0) trivial pc34 zr34 rfl) ?_
        refine TO.n0 (N.stA (vs := arV ar0) rfl rfl sz34 (by (repeat first | exact Put.head _ _ _ | apply Put.tail)) (by simp [frV, arV, fr0, ar0]) (by simp [frV, arV, fr0, ar0, str, Value.oneCell']) (by rfl)) ?_
        rintro _ _ ⟨rfl, rfl⟩
        rw [show setAll _ 0 (arV ar0) = arV ar0 from rfl]
        refine TO.p (DP.as (by conv => lhs; whnf)) ?_
        refine TO.nil ?_
        refine TQ.nn ?_
        refine T.ret ?_
        refine TQ.nr ?_
        rw [decA_bad s hc0 (fun h5 => hg29 h5.1)]
        refine TQ.ret (vs := [.agg (arV ar0).toArray, .int .i64 (8 : Nat)]) (L' := []) rfl ⟨RV.atA rfl ag34 sz34 (by (repeat first | exact LMem.head _ _ | apply LMem.tail)) rfl, rfl, rfl⟩ ⟨rfl, rfl⟩ (by (refine Ent.imp ?_; repeat first | exact Imp.refl _ | exact Imp.nil _ | (apply Imp.pull; focus ((repeat first | exact Del.head _ _ | apply Del.tail); done)) | (apply Imp.row; focus ((repeat first | exact Del.head _ _ | apply Del.tail); done)) | apply Imp.drop))
      · refine TO.onD rfl (D.ldRA (cs := arV (arOf s)) rfl ag34 sz34 (by (repeat first | exact LMem.head _ _ | apply LMem.tail)) rfl) ?_
        refine TO.on rfl (N.callF (rmay_spec (arOf s)) Tryd.call43 ⟨rfl, trivial⟩ (by (repeat first | exact Pick.nil _ | (apply Pick.cons; focus ((repeat first | exact Del.head _ _ | apply Del.tail); done))))) ?_
        rintro u31 _ ⟨_, ⟨rfl, rfl⟩, rfl⟩
        try simp only [List.cons_append, List.nil_append]
        refine TO.onP rfl (DP.not rfl) ?_
        refine TO.p (DP.pkF rfl (by conv => lhs; whnf)) ?_
        refine TO.nil ?_
        refine TQ.nn ?_
        refine T.condB rfl (fun hc1 => ?_) (fun hc1 => ?_)
        · refine T.seq ?_
          refine T.reg ?_
          refine TO.p (DP.bdL (vs := []) (us := arV ar0) trivial pc34 zr34 rfl) ?_
          refine TO.n0 (N.stA (vs := arV ar0) rfl rfl sz34 (by (repeat first | exact Put.head _ _ _ | apply Put.tail)) (by simp [frV, arV, fr0, ar0]) (by simp [frV, arV, fr0, ar0, str, Value.oneCell']) (by rfl)) ?_
          rintro _ _ ⟨rfl, rfl⟩
          rw [show setAll _ 0 (arV ar0) = arV ar0 from rfl]
          refine TO.p (DP.as (by conv => lhs; whnf)) ?_
          refine TO.nil ?_
          refine TQ.nn ?_
          refine T.ret ?_
          refine TQ.nr ?_
          rw [decA_bad s hc0 (fun h5 => by rw [h5.2] at hc1; cases hc1)]
          refine TQ.ret (vs := [.agg (arV ar0).toArray, .int .i64 (8 : Nat)]) (L' := []) rfl ⟨RV.atA rfl ag34 sz34 (by (repeat first | exact LMem.head _ _ | apply LMem.tail)) rfl, rfl, rfl⟩ ⟨rfl, rfl⟩ (by (refine Ent.imp ?_; repeat first | exact Imp.refl _ | exact Imp.nil _ | (apply Imp.pull; focus ((repeat first | exact Del.head _ _ | apply Del.tail); done)) | (apply Imp.row; focus ((repeat first | exact Del.head _ _ | apply Del.tail); done)) | apply Imp.drop))
        · refine T.skip ?_
          refine TQ.nn ?_
          refine T.seq ?_
          refine T.reg ?_
          refine TO.d (D.ldRA (cs := arV (arOf s)) rfl ag34 sz34 (by (repeat first | exact LMem.head _ _ | apply LMem.tail)) rfl) ?_
          refine TO.n0 (N.stA (vs := arV (arOf s)) rfl rfl sz34 (by (repeat first | exact Put.head _ _ _ | apply Put.tail)) (by simp [frV, arV, fr0, ar0]) (by simp [frV, arV, fr0, ar0, str, Value.oneCell']) (by rfl)) ?_
          rintro _ _ ⟨rfl, rfl⟩
          rw [show setAll _ 0 (arV (arOf s)) = arV (arOf s) from rfl]
          refine TO.p (DP.as (by conv => lhs; whnf)) ?_
          refine TO.nil ?_
          refine TQ.nn ?_
          refine T.ret ?_
          rw [decA_ok s hc0 (Decidable.not_not.1 hg29) (by simpa using hc1)]
          refine TQ.ret (vs := [.agg (arV (arOf s)).toArray, .int .i64 (0 : Nat)]) (L' := []) rfl ⟨RV.atA rfl ag34 sz34 (by (repeat first | exact LMem.head _ _ | apply LMem.tail)) rfl, rfl, rfl⟩ ⟨rfl, rfl⟩ (by (refine Ent.imp ?_; repeat first | exact Imp.refl _ | exact Imp.nil _ | (apply Imp.pull; focus ((repeat first | exact Del.head _ _ | apply Del.tail); done)) | (apply Imp.row; focus ((repeat first | exact Del.head _ _ | apply Del.tail); done)) | apply Imp.drop))
end Go.Proofs.YtbandaebilkkkaaDoor
