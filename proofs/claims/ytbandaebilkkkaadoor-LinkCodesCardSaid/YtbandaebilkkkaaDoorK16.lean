/- Lemmas for the proofs of this seat: no statement of the seat is claimed here. -/
import Derived.Test.YtbandaebilkkkaaDoorK15
set_option linter.all false
namespace Go.Proofs.YtbandaebilkkkaaDoor
open Go Pw
set_option maxRecDepth 20000
set_option maxHeartbeats 4000000

theorem codes_spec (f : Fr) (a : Ar) (s : List UInt8) (hfd : f.d.length ≤ 140737488351232) (hfs : f.s.length ≤ 140737488351232) (hft : f.t < 65536) (hfx : f.x.length ≤ 140737488351232) (hop : a.op < 65536) (haf : a.f.length ≤ 140737488351232) (hfa : a.fa < 4294967296) (hat : a.t.length ≤ 140737488351232) (hta : a.ta < 4294967296) (hs : s.length ≤ 140737488351232) :
    Sat Tryd.prog 4 [.agg (frV f).toArray, .agg (arV a).toArray, str s] [] (fun u L' => u = .bool true ∧ L' = []) := by
  refine Sat.enter Tryd.func4 rfl Tryd.ntmps4 rfl (fun c R => ?_)
  try simp only [List.cons_append, List.nil_append]
  refine T.seq ?_
  refine T.reg ?_
  refine TO.n (N.bxA (cs := frV f) rfl) ?_
  rintro _ _ ⟨b3, rfl, rfl⟩
  refine TO.n (N.bxA (cs := arV a) rfl) ?_
  rintro _ _ ⟨b4, rfl, rfl⟩
  refine TO.p (DP.as (by conv => lhs; whnf)) ?_
  refine TO.nil ?_
  refine TQ.nn ?_
  refine T.seq ?_
  refine T.seq ?_
  refine T.reg ?_
  refine TO.p (DP.fa 0 rfl Tryd.underlying48 rfl rfl sz9) ?_
  refine TO.d (D.ldR (v := str f.d) rfl pl9 (by (repeat first | exact LMem.head _ _ | apply LMem.tail)) rfl) ?_
  refine TO.p (DP.lenT rfl Tryd.underlying9) ?_
  refine TO.p (DP.fa 1 rfl Tryd.underlying48 rfl rfl sz9) ?_
  refine TO.d (D.ldR (v := str f.s) rfl pl9 (by (repeat first | exact LMem.head _ _ | apply LMem.tail)) rfl) ?_
  refine TO.p (DP.lenT rfl Tryd.underlying9) ?_
  refine TO.p ((by first | exact DP.add rfl rfl (l := 9223372036854775808) rfl (by omega) | exact DP.addX rfl rfl)) ?_
  refine TO.p (DP.fa 1 rfl Tryd.underlying34 rfl rfl sz9) ?_
  refine TO.d (D.ldR (v := str a.f) rfl pl9 (by (repeat first | exact LMem.head _ _ | apply LMem.tail)) rfl) ?_
  refine TO.p (DP.lenT rfl Tryd.underlying9) ?_
  refine TO.p ((by first | exact DP.add rfl rfl (l := 9223372036854775808) rfl (by omega) | exact DP.addX rfl rfl)) ?_
  refine TO.p (DP.fa 3 rfl Tryd.underlying34 rfl rfl sz9) ?_
  refine TO.d (D.ldR (v := str a.t) rfl pl9 (by (repeat first | exact LMem.head _ _ | apply LMem.tail)) rfl) ?_
  refine TO.p (DP.lenT rfl Tryd.underlying9) ?_
  refine TO.p ((by first | exact DP.add rfl rfl (l := 9223372036854775808) rfl (by omega) | exact DP.addX rfl rfl)) ?_
  refine TO.p ((by first | exact DP.gtr (b := 1024) rfl rfl | exact DP.gtrI rfl rfl)) ?_
  refine TO.pB (DP.mv (by conv => lhs; whnf)) (fun hg40 => ?_) (fun hg40 => ?_)
  · refine TO.off rfl rfl ?_
    refine TO.off rfl rfl ?_
    refine TO.off rfl rfl ?_
    refine TO.off rfl rfl ?_
    refine TO.p (DP.pkT rfl (by conv => lhs; whnf)) ?_
    refine TO.p (DP.mv (by conv => lhs; whnf)) ?_
    refine TO.off rfl rfl ?_
    refine TO.off rfl rfl ?_
    refine TO.off rfl rfl ?_
    refine TO.p (DP.pkT rfl (by conv => lhs; whnf)) ?_
    refine TO.nil ?_
    refine TQ.nn ?_
    refine T.condT rfl ?_
    refine T.seq ?_
    refine T.reg ?_
    refine TO.n (N.callF (works_spec) Tryd.call9 trivial (by (repeat first | exact Pick.nil _ | (apply Pick.cons; focus ((repeat first | exact Del.head _ _ | apply Del.tail); done))))) ?_
    rintro u51 _ ⟨_, ⟨rfl, rfl⟩, rfl⟩
    try simp only [List.cons_append, List.nil_append]
    refine TO.p (DP.as (by conv => lhs; whnf)) ?_
    refine TO.nil ?_
    refine TQ.nn ?_
    refine T.ret ?_
    refine TQ.nr ?_
    refine TQ.ret (vs := [.bool true]) (L' := []) rfl ⟨rfl, rfl⟩ ⟨rfl, rfl⟩ (by (refine Ent.imp ?_; repeat first | exact Imp.refl _ | exact Imp.nil _ | (apply Imp.pull; focus ((repeat first | exact Del.head _ _ | apply Del.tail); done)) | (apply Imp.row; focus ((repeat first | exact Del.head _ _ | apply Del.tail); done)) | apply Imp.drop))
  · refine TO.onP rfl (DP.fa 3 rfl Tryd.underlying48 rfl rfl sz9) ?_
    refine TO.onD rfl (D.ldR (v := str f.x) rfl pl9 (by (repeat first | exact LMem.head _ _ | apply LMem.tail)) rfl) ?_
    refine TO.onP rfl (DP.lenT rfl Tryd.underlying9) ?_
    refine TO.onP rfl ((by first | exact DP.gtr (b := 8192) rfl rfl | exact DP.gtrI rfl rfl)) ?_
    refine TO.p (DP.pkF rfl (by conv => lhs; whnf)) ?_
    refine TO.pB (DP.mv (by conv => lhs; whnf)) (fun hg46 => ?_) (fun hg46 => ?_)
    · refine TO.off rfl rfl ?_
      refine TO.off rfl rfl ?_
      refine TO.off rfl rfl ?_
      refine TO.p (DP.pkT rfl (by conv => lhs; whnf)) ?_
      refine TO.nil ?_
      refine TQ.nn ?_
      refine T.condT rfl ?_
      refine T.seq ?_
      refine T.reg ?_
      refine TO.n (N.callF (works_spec) Tryd.call9 trivial (by (repeat first | exact Pick.nil _ | (apply Pick.cons; focus ((repeat first | exact Del.head _ _ | apply Del.tail); done))))) ?_
      rintro u51 _ ⟨_, ⟨rfl, rfl⟩, rfl⟩
      try simp only [List.cons_append, List.nil_append]
      refine TO.p (DP.as (by conv => lhs; whnf)) ?_
      refine TO.nil ?_
      refine TQ.nn ?_
      refine T.ret ?_
      refine TQ.nr ?_
      refine TQ.ret (vs := [.bool true]) (L' := []) rfl ⟨rfl, rfl⟩ ⟨rfl, rfl⟩ (by (refine Ent.imp ?_; repeat first | exact Imp.refl _ | exact Imp.nil _ | (apply Imp.pull; focus ((repeat first | exact Del.head _ _ | apply Del.tail); done)) | (apply Imp.row; focus ((repeat first | exact Del.head _ _ | apply Del.tail); done)) | apply Imp.drop))
    · refine TO.onP rfl (DP.mv (by conv => lhs; whnf)) ?_
      refine TO.onP rfl (DP.lenT rfl Tryd.underlying9) ?_
      refine TO.onP rfl ((by first | exact DP.gtr (b := 8192) rfl rfl | exact DP.gtrI rfl rfl)) ?_
      refine TO.p (DP.pkF rfl (by conv => lhs; whnf)) ?_
      refine TO.nil ?_
      refine TQ.nn ?_
      refine T.condD rfl (fun hc0 => ?_) (fun hc0 => ?_)
      · refine T.seq ?_
        refine T.reg ?_
        refine TO.n (N.callF (works_spec) Tryd.call9 trivial (by (repeat first | exact Pick.nil _ | (apply Pick.cons; focus ((repeat first | exact Del.head _ _ | apply Del.tail); done))))) ?_
        rintro u51 _ ⟨_, ⟨rfl, rfl⟩, rfl⟩
        try simp only [List.cons_append, List.nil_append]
        refine TO.p (DP.as (by conv => lhs; whnf)) ?_
        refine TO.nil ?_
        refine TQ.nn ?_
        refine T.ret ?_
        refine TQ.nr ?_
        refine TQ.ret (vs := [.bool true]) (L' := []) rfl ⟨rfl, rfl⟩ ⟨rfl, rfl⟩ (by (refine Ent.imp ?_; repeat first | exact Imp.refl _ | exact Imp.nil _ | (apply Imp.pull; focus ((repeat first | exact Del.head _ _ | apply Del.tail); done)) | (apply Imp.row; focus ((repeat first | exact Del.head _ _ | apply Del.tail); done)) | apply Imp.drop))
      · have hfo : f.ok := ⟨by omega, by omega, hft, by omega⟩
        have hao : a.ok := ⟨hop, by omega, hfa, by omega, hta⟩
        refine T.skip ?_
        refine TQ.nn ?_
        refine T.seq ?_
        refine T.reg ?_
        refine TO.d (D.ldRA (cs := frV f) rfl ag48 sz48 (by (repeat first | exact LMem.head _ _ | apply LMem.tail)) rfl) ?_
        refine TO.n (N.callF (enc_spec f hfo) Tryd.call16 ⟨rfl, trivial⟩ (by (repeat first | exact Pick.nil _ | (apply Pick.cons; focus ((repeat first | exact Del.head _ _ | apply Del.tail); done))))) ?_
        rintro u54 _ ⟨_, ⟨rfl, rfl⟩, rfl⟩
        try simp only [List.cons_append, List.nil_append]
        refine TO.p (DP.mv (by conv => lhs; whnf)) ?_
        refine TO.p (DP.ex rfl rfl) ?_
        refine TO.p (DP.ex rfl rfl) ?_
        refine TO.p (DP.as (by conv => lhs; whnf)) ?_
        refine TO.p (DP.as (by conv => lhs; whnf)) ?_
        refine TO.nil ?_
        refine TQ.nn ?_
        refine T.seq ?_
        refine T.reg ?_
        refine TO.d (D.ldRA (cs := frV f) rfl ag48 sz48 (by (repeat first | exact LMem.head _ _ | apply LMem.tail)) rfl) ?_
        refine TO.n (N.callF (renc_spec f hfo) Tryd.call17 ⟨rfl, trivial⟩ (by (repeat first | exact Pick.nil _ | (apply Pick.cons; focus ((repeat first | exact Del.head _ _ | apply Del.tail); done))))) ?_
        rintro u59 _ ⟨_, ⟨rfl, rfl⟩, rfl⟩
        try simp only [List.cons_append, List.nil_append]
        refine TO.p (DP.mv (by conv => lhs; whnf)) ?_
        refine TO.p (DP.ex rfl rfl) ?_
        refine TO.p (DP.ex rfl rfl) ?_
        refine TO.p (DP.as (by conv => lhs; whnf)) ?_
        refine TO.p (DP.as (by conv => lhs; whnf)) ?_
        refine TO.nil ?_
        refine TQ.nn ?_
        refine T.seq ?_
        refine T.reg ?_
        refine TO.d (D.ldRA (cs := arV a) rfl ag34 sz34 (by (repeat first | exact LMem.head _ _ | apply LMem.tail)) rfl) ?_
        refine TO.n (N.callF (enca_spec a hao) Tryd.call18 ⟨rfl, trivial⟩ (by (repeat first | exact Pick.nil _ | (apply Pick.cons; focus ((repeat first | exact Del.head _ _ | apply Del.tail); done))))) ?_
        rintro u64 _ ⟨_, ⟨rfl, rfl⟩, rfl⟩
        try simp only [List.cons_append, List.nil_append]
        refine TO.p (DP.mv (by conv => lhs; whnf)) ?_
        refine TO.p (DP.ex rfl rfl) ?_
        refine TO.p (DP.ex rfl rfl) ?_
        refine TO.p (DP.as (by conv => lhs; whnf)) ?_
        refine TO.p (DP.as (by conv => lhs; whnf)) ?_
        refine TO.nil ?_
        refine TQ.nn ?_
        refine T.seq ?_
        refine T.reg ?_
        refine TO.d (D.ldRA (cs := arV a) rfl ag34 sz34 (by (repeat first | exact LMem.head _ _ | apply LMem.tail)) rfl) ?_
        refine TO.n (N.callF (renca_spec a hao) Tryd.call19 ⟨rfl, trivial⟩ (by (repeat first | exact Pick.nil _ | (apply Pick.cons; focus ((repeat first | exact Del.head _ _ | apply Del.tail); done))))) ?_
        rintro u69 _ ⟨_, ⟨rfl, rfl⟩, rfl⟩
        try simp only [List.cons_append, List.nil_append]
        refine TO.p (DP.mv (by conv => lhs; whnf)) ?_
        refine TO.p (DP.ex rfl rfl) ?_
        refine TO.p (DP.ex rfl rfl) ?_
        refine TO.p (DP.as (by conv => lhs; whnf)) ?_
        refine TO.p (DP.as (by conv => lhs; whnf)) ?_
        refine TO.nil ?_
        refine TQ.nn ?_
        refine T.seq ?_
        refine T.reg ?_
        refine TO.p (DP.mv (by conv => lhs; whnf)) ?_
        refine TO.n (N.callF (dec_spec s (by omega)) Tryd.call20 ⟨rfl, trivial⟩ (by (repeat first | exact Pick.nil _ | (apply Pick.cons; focus ((repeat first | exact Del.head _ _ | apply Del.tail); done))))) ?_
        rintro u74 _ ⟨_, ⟨rfl, rfl⟩, rfl⟩
        try simp only [List.cons_append, List.nil_append]
        refine TO.p (DP.mv (by conv => lhs; whnf)) ?_
        refine TO.p (DP.ex rfl rfl) ?_
        refine TO.p (DP.ex rfl rfl) ?_
        refine TO.n (N.alA zr48) ?_
        rintro _ _ ⟨b15, rfl, rfl⟩
        refine TO.n0 (N.stA (vs := frV (decE s).1) rfl rfl sz48 (by (repeat first | exact Put.head _ _ _ | apply Put.tail)) (by simp [frV, arV, fr0, ar0]) (by simp [frV, arV, fr0, ar0, str, Value.oneCell']) (by rfl)) ?_
        rintro _ _ ⟨rfl, rfl⟩
        rw [show setAll _ 0 (frV (decE s).1) = frV (decE s).1 from rfl]
        refine TO.p (DP.as (by conv => lhs; whnf)) ?_
        refine TO.nil ?_
        refine TQ.nn ?_
        refine T.seq ?_
        refine T.reg ?_
        refine TO.p (DP.mv (by conv => lhs; whnf)) ?_
        refine TO.n (N.callF (rdec_spec s (by omega)) Tryd.call21 ⟨rfl, trivial⟩ (by (repeat first | exact Pick.nil _ | (apply Pick.cons; focus ((repeat first | exact Del.head _ _ | apply Del.tail); done))))) ?_
        rintro u79 _ ⟨_, ⟨rfl, rfl⟩, rfl⟩
        try simp only [List.cons_append, List.nil_append]
        refine TO.p (DP.mv (by conv => lhs; whnf)) ?_
        refine TO.p (DP.ex rfl rfl) ?_
        refine TO.p (DP.ex rfl rfl) ?_
        refine TO.n (N.alA zr48) ?_
        rintro _ _ ⟨b17, rfl, rfl⟩
        refine TO.n0 (N.stA (vs := frV (decE s).1) rfl rfl sz48 (by (repeat first | exact Put.head _ _ _ | apply Put.tail)) (by simp [frV, arV, fr0, ar0]) (by simp [frV, arV, fr0, ar0, str, Value.oneCell']) (by rfl)) ?_
        rintro _ _ ⟨rfl, rfl⟩
        rw [show setAll _ 0 (frV (decE s).1) = frV (decE s).1 from rfl]
        refine TO.p (DP.as (by conv => lhs; whnf)) ?_
        refine TO.nil ?_
        refine TQ.nn ?_
        refine T.seq ?_
        refine T.reg ?_
        refine TO.p (DP.mv (by conv => lhs; whnf)) ?_
        refine TO.n (N.callF (deca_spec s (by omega)) Tryd.call22 ⟨rfl, trivial⟩ (by (repeat first | exact Pick.nil _ | (apply Pick.cons; focus ((repeat first | exact Del.head _ _ | apply Del.tail); done))))) ?_
        rintro u84 _ ⟨_, ⟨rfl, rfl⟩, rfl⟩
        try simp only [List.cons_append, List.nil_append]
        refine TO.p (DP.mv (by conv => lhs; whnf)) ?_
        refine TO.p (DP.ex rfl rfl) ?_
        refine TO.p (DP.ex rfl rfl) ?_
        refine TO.n (N.alA zr34) ?_
        rintro _ _ ⟨b19, rfl, rfl⟩
        refine TO.n0 (N.stA (vs := arV (decA s).1) rfl rfl sz34 (by (repeat first | exact Put.head _ _ _ | apply Put.tail)) (by simp [frV, arV, fr0, ar0]) (by simp [frV, arV, fr0, ar0, str, Value.oneCell']) (by rfl)) ?_
        rintro _ _ ⟨rfl, rfl⟩
        rw [show setAll _ 0 (arV (decA s).1) = arV (decA s).1 from rfl]
        refine TO.p (DP.as (by conv => lhs; whnf)) ?_
        refine TO.nil ?_
        refine TQ.nn ?_
        refine T.seq ?_
        refine T.reg ?_
        refine TO.p (DP.mv (by conv => lhs; whnf)) ?_
        refine TO.n (N.callF (rdeca_spec s (by omega)) Tryd.call23 ⟨rfl, trivial⟩ (by (repeat first | exact Pick.nil _ | (apply Pick.cons; focus ((repeat first | exact Del.head _ _ | apply Del.tail); done))))) ?_
        rintro u89 _ ⟨_, ⟨rfl, rfl⟩, rfl⟩
        try simp only [List.cons_append, List.nil_append]
        refine TO.p (DP.mv (by conv => lhs; whnf)) ?_
        refine TO.p (DP.ex rfl rfl) ?_
        refine TO.p (DP.ex rfl rfl) ?_
        refine TO.n (N.alA zr34) ?_
        rintro _ _ ⟨b21, rfl, rfl⟩
        refine TO.n0 (N.stA (vs := arV (decA s).1) rfl rfl sz34 (by (repeat first | exact Put.head _ _ _ | apply Put.tail)) (by simp [frV, arV, fr0, ar0]) (by simp [frV, arV, fr0, ar0, str, Value.oneCell']) (by rfl)) ?_
        rintro _ _ ⟨rfl, rfl⟩
        rw [show setAll _ 0 (arV (decA s).1) = arV (decA s).1 from rfl]
        refine TO.p (DP.as (by conv => lhs; whnf)) ?_
        refine TO.nil ?_
        refine TQ.nn ?_
        refine T.seq ?_
        refine T.drawL [13] mixed (by repeat first | exact Calm.rt | apply Calm.t | apply Calm.b | apply Calm.l | apply Calm.ct) ?_
        refine TR.p 0 rfl (by kernel_rfl) (DP.fa 0 rfl Tryd.underlying48 rfl rfl sz9) ?_
        refine TR.d 1 rfl (by kernel_rfl) (by kernel_rfl) (by (refine Ent.imp ?_; repeat first | exact Imp.refl _ | exact Imp.nil _ | (apply Imp.pull; focus ((repeat first | exact Del.head _ _ | apply Del.tail); done)) | (apply Imp.row; focus ((repeat first | exact Del.head _ _ | apply Del.tail); done)) | apply Imp.drop)) (D.ldR (v := str f.d) rfl pl9 (by (repeat first | exact LMem.head _ _ | apply LMem.tail)) rfl) ?_
        refine TR.p 3 rfl (by kernel_rfl) (DP.fa 0 rfl Tryd.underlying48 rfl rfl sz9) ?_
        refine TR.d 4 rfl (by kernel_rfl) (by kernel_rfl) (by (refine Ent.imp ?_; repeat first | exact Imp.refl _ | exact Imp.nil _ | (apply Imp.pull; focus ((repeat first | exact Del.head _ _ | apply Del.tail); done)) | (apply Imp.row; focus ((repeat first | exact Del.head _ _ | apply Del.tail); done)) | apply Imp.drop)) (D.ldR (v := str f.d) rfl pl9 (by (repeat first | exact LMem.head _ _ | apply LMem.tail)) rfl) ?_
        refine TR.n 2 (by kernel_rfl) rfl (N.callF (alone_spec f.d (by omega)) Tryd.call24 ⟨rfl, trivial⟩ (by (repeat first | exact Pick.nil _ | (apply Pick.cons; focus ((repeat first | exact Del.head _ _ | apply Del.tail); done))))) ?_
        rintro u94 _ ⟨_, ⟨rfl, rfl⟩, rfl⟩
        try simp only [List.cons_append, List.nil_append]
        refine ⟨.inr (by (refine Ent.imp ?_; repeat first | exact Imp.refl _ | exact Imp.nil _ | (apply Imp.pull; focus ((repeat first | exact Del.head _ _ | apply Del.tail); done)) | (apply Imp.row; focus ((repeat first | exact Del.head _ _ | apply Del.tail); done)) | apply Imp.drop)), ?_⟩
        refine TR.n 5 (by kernel_rfl) rfl (N.callF (ralone_spec f.d (by omega)) Tryd.call15 ⟨rfl, trivial⟩ (by (repeat first | exact Pick.nil _ | (apply Pick.cons; focus ((repeat first | exact Del.head _ _ | apply Del.tail); done))))) ?_
        rintro u97 _ ⟨_, ⟨rfl, rfl⟩, rfl⟩
        try simp only [List.cons_append, List.nil_append]
        refine ⟨.inr (by (refine Ent.imp ?_; repeat first | exact Imp.refl _ | exact Imp.nil _ | (apply Imp.pull; focus ((repeat first | exact Del.head _ _ | apply Del.tail); done)) | (apply Imp.row; focus ((repeat first | exact Del.head _ _ | apply Del.tail); done)) | apply Imp.drop)), ?_⟩
        refine TR.p 6 rfl (by kernel_rfl) (DP.to (v' := .bool true) (DP.beql rfl rfl Tryd.underlying4) (by simp)) ?_
        refine TR.p 7 rfl (by kernel_rfl) (DP.mv (by conv => lhs; whnf)) ?_
        refine TR.pon 8 rfl (by kernel_rfl) rfl (DP.fa 2 rfl Tryd.underlying34 rfl rfl sz26) ?_
        refine TR.don 9 rfl (by kernel_rfl) (by kernel_rfl) (by (refine Ent.imp ?_; repeat first | exact Imp.refl _ | exact Imp.nil _ | (apply Imp.pull; focus ((repeat first | exact Del.head _ _ | apply Del.tail); done)) | (apply Imp.row; focus ((repeat first | exact Del.head _ _ | apply Del.tail); done)) | apply Imp.drop)) rfl (D.ldR (v := .int .u32 a.fa) rfl pl26 (by (repeat first | exact LMem.head _ _ | apply LMem.tail)) rfl) ?_
        refine TR.pon 11 rfl (by kernel_rfl) rfl (DP.fa 2 rfl Tryd.underlying34 rfl rfl sz26) ?_
        refine TR.don 12 rfl (by kernel_rfl) (by kernel_rfl) (by (refine Ent.imp ?_; repeat first | exact Imp.refl _ | exact Imp.nil _ | (apply Imp.pull; focus ((repeat first | exact Del.head _ _ | apply Del.tail); done)) | (apply Imp.row; focus ((repeat first | exact Del.head _ _ | apply Del.tail); done)) | apply Imp.drop)) rfl (D.ldR (v := .int .u32 a.fa) rfl pl26 (by (repeat first | exact LMem.head _ _ | apply LMem.tail)) rfl) ?_
        refine TR.non 10 (by kernel_rfl) rfl rfl (N.callF (aloneA_spec a.fa hfa) Tryd.call25 ⟨rfl, trivial⟩ (by (repeat first | exact Pick.nil _ | (apply Pick.cons; focus ((repeat first | exact Del.head _ _ | apply Del.tail); done))))) ?_
        rintro u102 _ ⟨_, ⟨rfl, rfl⟩, rfl⟩
        try simp only [List.cons_append, List.nil_append]
        refine ⟨.inr (by (refine Ent.imp ?_; repeat first | exact Imp.refl _ | exact Imp.nil _ | (apply Imp.pull; focus ((repeat first | exact Del.head _ _ | apply Del.tail); done)) | (apply Imp.row; focus ((repeat first | exact Del.head _ _ | apply Del.tail); done)) | apply Imp.drop)), ?_⟩
        refine TR.non 13 (by kernel_rfl) rfl rfl (N.callF (raloneA_spec a.fa hfa) Tryd.call26 ⟨rfl, trivial⟩ (by (repeat first | exact Pick.nil _ | (apply Pick.cons; focus ((repeat first | exact Del.head _ _ | apply Del.tail); done))))) ?_
        rintro u105 _ ⟨_, ⟨rfl, rfl⟩, rfl⟩
        try simp only [List.cons_append, List.nil_append]
        refine ⟨.inl rfl, ?_⟩
        refine TR.pon 14 rfl (by kernel_rfl) rfl (DP.to (v' := .bool true) (DP.beql rfl rfl Tryd.underlying4) (by simp)) ?_
        refine TR.p 15 rfl (by kernel_rfl) (DP.pkT rfl (by conv => lhs; whnf)) ?_
        refine TR.p 16 rfl (by kernel_rfl) (DP.as (by conv => lhs; whnf)) ?_
        refine TR.done (by kernel_rfl) ?_
        refine TQ.nn ?_
        refine T.seq ?_
        refine T.reg ?_
        refine TO.p (DP.mv (by conv => lhs; whnf)) ?_
        refine TO.p (DP.mv (by conv => lhs; whnf)) ?_
        refine TO.p (DP.to (v' := .bool true) (DP.teql (l := (encE f).1) (m := (encE f).1) rfl rfl) (by simp)) ?_
        refine TO.p (DP.mv (by conv => lhs; whnf)) ?_
        refine TO.onP rfl (DP.mv (by conv => lhs; whnf)) ?_
        refine TO.onP rfl (DP.mv (by conv => lhs; whnf)) ?_
        refine TO.onP rfl (DP.to (v' := .bool true) (DP.eql (a := (encE f).2) (b := (encE f).2) rfl rfl) (by simp)) ?_
        refine TO.p (DP.pkT rfl (by conv => lhs; whnf)) ?_
        refine TO.p (DP.mv (by conv => lhs; whnf)) ?_
        refine TO.onP rfl (DP.mv (by conv => lhs; whnf)) ?_
        refine TO.onP rfl (DP.mv (by conv => lhs; whnf)) ?_
        refine TO.onP rfl (DP.to (v' := .bool true) (DP.teql (l := (encA a).1) (m := (encA a).1) rfl rfl) (by simp)) ?_
        refine TO.p (DP.pkT rfl (by conv => lhs; whnf)) ?_
        refine TO.p (DP.mv (by conv => lhs; whnf)) ?_
        refine TO.onP rfl (DP.mv (by conv => lhs; whnf)) ?_
        refine TO.onP rfl (DP.mv (by conv => lhs; whnf)) ?_
        refine TO.onP rfl (DP.to (v' := .bool true) (DP.eql (a := (encA a).2) (b := (encA a).2) rfl rfl) (by simp)) ?_
        refine TO.p (DP.pkT rfl (by conv => lhs; whnf)) ?_
        refine TO.p (DP.mv (by conv => lhs; whnf)) ?_
        refine TO.onD rfl (D.ldRA (cs := frV (decE s).1) rfl ag48 sz48 (by (repeat first | exact LMem.head _ _ | apply LMem.tail)) rfl) ?_
        refine TO.onD rfl (D.ldRA (cs := frV (decE s).1) rfl ag48 sz48 (by (repeat first | exact LMem.head _ _ | apply LMem.tail)) rfl) ?_
        refine TO.onP rfl (DP.to (v' := .bool true) (DP.eqOf rfl rfl eg48 (fun w => eqFr (decE s).1 (decE s).1 w)) (by simp)) ?_
        refine TO.p (DP.pkT rfl (by conv => lhs; whnf)) ?_
        refine TO.p (DP.mv (by conv => lhs; whnf)) ?_
        refine TO.onP rfl (DP.mv (by conv => lhs; whnf)) ?_
        refine TO.onP rfl (DP.mv (by conv => lhs; whnf)) ?_
        refine TO.onP rfl (DP.to (v' := .bool true) (DP.eql (a := (decE s).2) (b := (decE s).2) rfl rfl) (by simp)) ?_
        refine TO.p (DP.pkT rfl (by conv => lhs; whnf)) ?_
        refine TO.p (DP.mv (by conv => lhs; whnf)) ?_
        refine TO.onD rfl (D.ldRA (cs := arV (decA s).1) rfl ag34 sz34 (by (repeat first | exact LMem.head _ _ | apply LMem.tail)) rfl) ?_
        refine TO.onD rfl (D.ldRA (cs := arV (decA s).1) rfl ag34 sz34 (by (repeat first | exact LMem.head _ _ | apply LMem.tail)) rfl) ?_
        refine TO.onP rfl (DP.to (v' := .bool true) (DP.eqOf rfl rfl eg34 (fun w => eqAr (decA s).1 (decA s).1 w)) (by simp)) ?_
        refine TO.p (DP.pkT rfl (by conv => lhs; whnf)) ?_
        refine TO.p (DP.mv (by conv => lhs; whnf)) ?_
        refine TO.onP rfl (DP.mv (by conv => lhs; whnf)) ?_
        refine TO.onP rfl (DP.mv (by conv => lhs; whnf)) ?_
        refine TO.onP rfl (DP.to (v' := .bool true) (DP.eql (a := (decA s).2) (b := (decA s).2) rfl rfl) (by simp)) ?_
        refine TO.p (DP.pkT rfl (by conv => lhs; whnf)) ?_
        refine TO.p (DP.mv (by conv => lhs; whnf)) ?_
        refine TO.onP rfl (DP.mv (by conv => lhs; whnf)) ?_
        refine TO.p (DP.pkT rfl (by conv => lhs; whnf)) ?_
        refine TO.p (DP.mv (by conv => lhs; whnf)) ?_
        refine TO.on rfl (N.callF (works_spec) Tryd.call9 trivial (by (repeat first | exact Pick.nil _ | (apply Pick.cons; focus ((repeat first | exact Del.head _ _ | apply Del.tail); done))))) ?_
        rintro u150 _ ⟨_, ⟨rfl, rfl⟩, rfl⟩
        try simp only [List.cons_append, List.nil_append]
        refine TO.p (DP.pkT rfl (by conv => lhs; whnf)) ?_
        refine TO.p (DP.as (by conv => lhs; whnf)) ?_
        refine TO.nil ?_
        refine TQ.nn ?_
        refine T.ret ?_
        refine TQ.ret (vs := [.bool true]) (L' := []) rfl ⟨rfl, rfl⟩ ⟨rfl, rfl⟩ (by (refine Ent.imp ?_; repeat first | exact Imp.refl _ | exact Imp.nil _ | (apply Imp.pull; focus ((repeat first | exact Del.head _ _ | apply Del.tail); done)) | (apply Imp.row; focus ((repeat first | exact Del.head _ _ | apply Del.tail); done)) | apply Imp.drop))

theorem back_spec (f : Fr) (a : Ar) (s : List UInt8) (hfd : f.d.length ≤ 140737488351232) (hfs : f.s.length ≤ 140737488351232) (hft : f.t < 65536) (hfx : f.x.length ≤ 140737488351232) (hop : a.op < 65536) (haf : a.f.length ≤ 140737488351232) (hfa : a.fa < 4294967296) (hat : a.t.length ≤ 140737488351232) (hta : a.ta < 4294967296) (hs : s.length ≤ 140737488351232) :
    Sat Tryd.prog 5 [.agg (frV f).toArray, .agg (arV a).toArray, str s] [] (fun u L' => u = .bool true ∧ L' = []) := by
  refine Sat.enter Tryd.func5 rfl Tryd.ntmps5 rfl (fun c R => ?_)
  try simp only [List.cons_append, List.nil_append]
  refine T.seq ?_
  refine T.reg ?_
  refine TO.n (N.bxA (cs := frV f) rfl) ?_
  rintro _ _ ⟨b3, rfl, rfl⟩
  refine TO.n (N.bxA (cs := arV a) rfl) ?_
  rintro _ _ ⟨b4, rfl, rfl⟩
  refine TO.p (DP.as (by conv => lhs; whnf)) ?_
  refine TO.nil ?_
  refine TQ.nn ?_
  refine T.seq ?_
  refine T.seq ?_
  refine T.reg ?_
  refine TO.p (DP.fa 0 rfl Tryd.underlying48 rfl rfl sz9) ?_
  refine TO.d (D.ldR (v := str f.d) rfl pl9 (by (repeat first | exact LMem.head _ _ | apply LMem.tail)) rfl) ?_
  refine TO.p (DP.lenT rfl Tryd.underlying9) ?_
  refine TO.p (DP.fa 1 rfl Tryd.underlying48 rfl rfl sz9) ?_
  refine TO.d (D.ldR (v := str f.s) rfl pl9 (by (repeat first | exact LMem.head _ _ | apply LMem.tail)) rfl) ?_
  refine TO.p (DP.lenT rfl Tryd.underlying9) ?_
  refine TO.p ((by first | exact DP.add rfl rfl (l := 9223372036854775808) rfl (by omega) | exact DP.addX rfl rfl)) ?_
  refine TO.p (DP.fa 1 rfl Tryd.underlying34 rfl rfl sz9) ?_
  refine TO.d (D.ldR (v := str a.f) rfl pl9 (by (repeat first | exact LMem.head _ _ | apply LMem.tail)) rfl) ?_
  refine TO.p (DP.lenT rfl Tryd.underlying9) ?_
  refine TO.p ((by first | exact DP.add rfl rfl (l := 9223372036854775808) rfl (by omega) | exact DP.addX rfl rfl)) ?_
  refine TO.p (DP.fa 3 rfl Tryd.underlying34 rfl rfl sz9) ?_
  refine TO.d (D.ldR (v := str a.t) rfl pl9 (by (repeat first | exact LMem.head _ _ | apply LMem.tail)) rfl) ?_
  refine TO.p (DP.lenT rfl Tryd.underlying9) ?_
  refine TO.p ((by first | exact DP.add rfl rfl (l := 9223372036854775808) rfl (by omega) | exact DP.addX rfl rfl)) ?_
  refine TO.p ((by first | exact DP.gtr (b := 1024) rfl rfl | exact DP.gtrI rfl rfl)) ?_
  refine TO.pB (DP.mv (by conv => lhs; whnf)) (fun hg32 => ?_) (fun hg32 => ?_)
  · refine TO.off rfl rfl ?_
    refine TO.off rfl rfl ?_
    refine TO.off rfl rfl ?_
    refine TO.off rfl rfl ?_
    refine TO.p (DP.pkT rfl (by conv => lhs; whnf)) ?_
    refine TO.p (DP.mv (by conv => lhs; whnf)) ?_
    refine TO.off rfl rfl ?_
    refine TO.off rfl rfl ?_
    refine TO.off rfl rfl ?_
    refine TO.p (DP.pkT rfl (by conv => lhs; whnf)) ?_
    refine TO.nil ?_
    refine TQ.nn ?_
    refine T.condT rfl ?_
    refine T.seq ?_
    refine T.reg ?_
    refine TO.n (N.callF (works_spec) Tryd.call9 trivial (by (repeat first | exact Pick.nil _ | (apply Pick.cons; focus ((repeat first | exact Del.head _ _ | apply Del.tail); done))))) ?_
    rintro u43 _ ⟨_, ⟨rfl, rfl⟩, rfl⟩
    try simp only [List.cons_append, List.nil_append]
    refine TO.p (DP.as (by conv => lhs; whnf)) ?_
    refine TO.nil ?_
    refine TQ.nn ?_
    refine T.ret ?_
    refine TQ.nr ?_
    refine TQ.ret (vs := [.bool true]) (L' := []) rfl ⟨rfl, rfl⟩ ⟨rfl, rfl⟩ (by (refine Ent.imp ?_; repeat first | exact Imp.refl _ | exact Imp.nil _ | (apply Imp.pull; focus ((repeat first | exact Del.head _ _ | apply Del.tail); done)) | (apply Imp.row; focus ((repeat first | exact Del.head _ _ | apply Del.tail); done)) | apply Imp.drop))
  · refine TO.onP rfl (DP.fa 3 rfl Tryd.underlying48 rfl rfl sz9) ?_
    refine TO.onD rfl (D.ldR (v := str f.x) rfl pl9 (by (repeat first | exact LMem.head _ _ | apply LMem.tail)) rfl) ?_
    refine TO.onP rfl (DP.lenT rfl Tryd.underlying9) ?_
    refine TO.onP rfl ((by first | exact DP.gtr (b := 8192) rfl rfl | exact DP.gtrI rfl rfl)) ?_
    refine TO.p (DP.pkF rfl (by conv => lhs; whnf)) ?_
    refine TO.pB (DP.mv (by conv => lhs; whnf)) (fun hg38 => ?_) (fun hg38 => ?_)
    · refine TO.off rfl rfl ?_
      refine TO.off rfl rfl ?_
      refine TO.off rfl rfl ?_
      refine TO.p (DP.pkT rfl (by conv => lhs; whnf)) ?_
      refine TO.nil ?_
      refine TQ.nn ?_
      refine T.condT rfl ?_
      refine T.seq ?_
      refine T.reg ?_
      refine TO.n (N.callF (works_spec) Tryd.call9 trivial (by (repeat first | exact Pick.nil _ | (apply Pick.cons; focus ((repeat first | exact Del.head _ _ | apply Del.tail); done))))) ?_
      rintro u43 _ ⟨_, ⟨rfl, rfl⟩, rfl⟩
      try simp only [List.cons_append, List.nil_append]
      refine TO.p (DP.as (by conv => lhs; whnf)) ?_
      refine TO.nil ?_
      refine TQ.nn ?_
      refine T.ret ?_
      refine TQ.nr ?_
      refine TQ.ret (vs := [.bool true]) (L' := []) rfl ⟨rfl, rfl⟩ ⟨rfl, rfl⟩ (by (refine Ent.imp ?_; repeat first | exact Imp.refl _ | exact Imp.nil _ | (apply Imp.pull; focus ((repeat first | exact Del.head _ _ | apply Del.tail); done)) | (apply Imp.row; focus ((repeat first | exact Del.head _ _ | apply Del.tail); done)) | apply Imp.drop))
    · refine TO.onP rfl (DP.mv (by conv => lhs; whnf)) ?_
      refine TO.onP rfl (DP.lenT rfl Tryd.underlying9) ?_
      refine TO.onP rfl ((by first | exact DP.gtr (b := 1024) rfl rfl | exact DP.gtrI rfl rfl)) ?_
      refine TO.p (DP.pkF rfl (by conv => lhs; whnf)) ?_
      refine TO.nil ?_
      refine TQ.nn ?_
      refine T.condD rfl (fun hc0 => ?_) (fun hc0 => ?_)
      · refine T.seq ?_
        refine T.reg ?_
        refine TO.n (N.callF (works_spec) Tryd.call9 trivial (by (repeat first | exact Pick.nil _ | (apply Pick.cons; focus ((repeat first | exact Del.head _ _ | apply Del.tail); done))))) ?_
        rintro u43 _ ⟨_, ⟨rfl, rfl⟩, rfl⟩
        try simp only [List.cons_append, List.nil_append]
        refine TO.p (DP.as (by conv => lhs; whnf)) ?_
        refine TO.nil ?_
        refine TQ.nn ?_
        refine T.ret ?_
        refine TQ.nr ?_
        refine TQ.ret (vs := [.bool true]) (L' := []) rfl ⟨rfl, rfl⟩ ⟨rfl, rfl⟩ (by (refine Ent.imp ?_; repeat first | exact Imp.refl _ | exact Imp.nil _ | (apply Imp.pull; focus ((repeat first | exact Del.head _ _ | apply Del.tail); done)) | (apply Imp.row; focus ((repeat first | exact Del.head _ _ | apply Del.tail); done)) | apply Imp.drop))
      · have hfo : f.ok := ⟨by omega, by omega, hft, by omega⟩
        have hao : a.ok := ⟨hop, by omega, hfa, by omega, hta⟩
        refine T.skip ?_
        refine TQ.nn ?_
        refine T.seq ?_
        refine T.reg ?_
        refine TO.d (D.ldRA (cs := frV f) rfl ag48 sz48 (by (repeat first | exact LMem.head _ _ | apply LMem.tail)) rfl) ?_
        refine TO.n (N.callF (enc_spec f hfo) Tryd.call16 ⟨rfl, trivial⟩ (by (repeat first | exact Pick.nil _ | (apply Pick.cons; focus ((repeat first | exact Del.head _ _ | apply Del.tail); done))))) ?_
        rintro u46 _ ⟨_, ⟨rfl, rfl⟩, rfl⟩
        try simp only [List.cons_append, List.nil_append]
        refine TO.p (DP.mv (by conv => lhs; whnf)) ?_
        refine TO.p (DP.ex rfl rfl) ?_
        refine TO.p (DP.ex rfl rfl) ?_
        refine TO.p (DP.as (by conv => lhs; whnf)) ?_
        refine TO.p (DP.as (by conv => lhs; whnf)) ?_
        refine TO.nil ?_
        refine TQ.nn ?_
        refine T.seq ?_
        refine T.seq ?_
        refine T.reg ?_
        refine TO.p (DP.mv (by conv => lhs; whnf)) ?_
        refine TO.p (DP.eql (a := (encE f).2) (b := 0) rfl rfl) ?_
        refine TO.nil ?_
        refine TQ.nn ?_
        refine T.condD rfl (fun hc1 => ?_) (fun hc1 => ?_)
        · obtain ⟨e1, e2, e3, e4, he⟩ := encE_inv hc1
          have hde := dec_enc f e1 e2 e3 hft e4
          have hxl : (f.x ++ List.replicate (46 - f.x.length) 0).length = max f.x.length 46 := by simp only [List.length_append, List.length_replicate]; omega
          refine T.seq ?_
          refine T.reg ?_
          refine TO.p (DP.mv (by conv => lhs; whnf)) ?_
          refine TO.n (N.callF (dec_spec (encE f).1 (by rw [he]; simp [numE_len]; omega)) Tryd.call20 ⟨rfl, trivial⟩ (by (repeat first | exact Pick.nil _ | (apply Pick.cons; focus ((repeat first | exact Del.head _ _ | apply Del.tail); done))))) ?_
          rintro u53 _ ⟨_, ⟨rfl, rfl⟩, rfl⟩
          try simp only [List.cons_append, List.nil_append]
          refine TO.p (DP.mv (by conv => lhs; whnf)) ?_
          rw [he]
          rw [hde]
          refine TO.p (DP.ex rfl rfl) ?_
          refine TO.p (DP.ex rfl rfl) ?_
          refine TO.n (N.alA zr48) ?_
          rintro _ _ ⟨b9, rfl, rfl⟩
          refine TO.n0 (N.stA (vs := frV (⟨f.d, f.s, f.t, (f.x ++ List.replicate (46 - f.x.length) 0)⟩ : Fr)) rfl rfl sz48 (by (repeat first | exact Put.head _ _ _ | apply Put.tail)) (by simp [frV, arV, fr0, ar0]) (by simp [frV, arV, fr0, ar0, str, Value.oneCell']) (by rfl)) ?_
          rintro _ _ ⟨rfl, rfl⟩
          rw [show setAll _ 0 (frV (⟨f.d, f.s, f.t, (f.x ++ List.replicate (46 - f.x.length) 0)⟩ : Fr)) = frV (⟨f.d, f.s, f.t, (f.x ++ List.replicate (46 - f.x.length) 0)⟩ : Fr) from rfl]
          refine TO.p (DP.as (by conv => lhs; whnf)) ?_
          refine TO.nil ?_
          refine TQ.nn ?_
          refine T.seq ?_
          refine T.seq ?_
          refine T.drawL [] mixed (by repeat first | exact Calm.rt | apply Calm.t | apply Calm.b | apply Calm.l | apply Calm.ct) ?_
          refine TR.p 0 rfl (by kernel_rfl) (DP.mv (by conv => lhs; whnf)) ?_
          refine TR.p 1 rfl (by kernel_rfl) (DP.to (v' := .bool false) (DP.neq (a := 0) (b := 0) rfl rfl) (by simp)) ?_
          refine TR.p 2 rfl (by kernel_rfl) (DP.mv (by conv => lhs; whnf)) ?_
          refine TR.pon 3 rfl (by kernel_rfl) rfl (DP.fa 0 rfl Tryd.underlying48 rfl rfl sz9) ?_
          refine TR.don 4 rfl (by kernel_rfl) (by kernel_rfl) (by (refine Ent.imp ?_; repeat first | exact Imp.refl _ | exact Imp.nil _ | (apply Imp.pull; focus ((repeat first | exact Del.head _ _ | apply Del.tail); done)) | (apply Imp.row; focus ((repeat first | exact Del.head _ _ | apply Del.tail); done)) | apply Imp.drop)) rfl (D.ldR (v := str f.d) rfl pl9 (by (repeat first | exact LMem.head _ _ | apply LMem.tail)) rfl) ?_
          refine TR.pon 5 rfl (by kernel_rfl) rfl (DP.fa 0 rfl Tryd.underlying48 rfl rfl sz9) ?_
          refine TR.don 6 rfl (by kernel_rfl) (by kernel_rfl) (by (refine Ent.imp ?_; repeat first | exact Imp.refl _ | exact Imp.nil _ | (apply Imp.pull; focus ((repeat first | exact Del.head _ _ | apply Del.tail); done)) | (apply Imp.row; focus ((repeat first | exact Del.head _ _ | apply Del.tail); done)) | apply Imp.drop)) rfl (D.ldR (v := str f.d) rfl pl9 (by (repeat first | exact LMem.head _ _ | apply LMem.tail)) rfl) ?_
          refine TR.pon 7 rfl (by kernel_rfl) rfl (DP.to (v' := .bool false) (DP.tneq (l := f.d) (m := f.d) rfl rfl) (by simp)) ?_
          refine TR.p 8 rfl (by kernel_rfl) (DP.pkF rfl (by conv => lhs; whnf)) ?_
          refine TR.p 9 rfl (by kernel_rfl) (DP.mv (by conv => lhs; whnf)) ?_
          refine TR.pon 10 rfl (by kernel_rfl) rfl (DP.fa 1 rfl Tryd.underlying48 rfl rfl sz9) ?_
          refine TR.don 11 rfl (by kernel_rfl) (by kernel_rfl) (by (refine Ent.imp ?_; repeat first | exact Imp.refl _ | exact Imp.nil _ | (apply Imp.pull; focus ((repeat first | exact Del.head _ _ | apply Del.tail); done)) | (apply Imp.row; focus ((repeat first | exact Del.head _ _ | apply Del.tail); done)) | apply Imp.drop)) rfl (D.ldR (v := str f.s) rfl pl9 (by (repeat first | exact LMem.head _ _ | apply LMem.tail)) rfl) ?_
          refine TR.pon 12 rfl (by kernel_rfl) rfl (DP.fa 1 rfl Tryd.underlying48 rfl rfl sz9) ?_
          refine TR.don 13 rfl (by kernel_rfl) (by kernel_rfl) (by (refine Ent.imp ?_; repeat first | exact Imp.refl _ | exact Imp.nil _ | (apply Imp.pull; focus ((repeat first | exact Del.head _ _ | apply Del.tail); done)) | (apply Imp.row; focus ((repeat first | exact Del.head _ _ | apply Del.tail); done)) | apply Imp.drop)) rfl (D.ldR (v := str f.s) rfl pl9 (by (repeat first | exact LMem.head _ _ | apply LMem.tail)) rfl) ?_
          refine TR.pon 14 rfl (by kernel_rfl) rfl (DP.to (v' := .bool false) (DP.tneq (l := f.s) (m := f.s) rfl rfl) (by simp)) ?_
          refine TR.p 15 rfl (by kernel_rfl) (DP.pkF rfl (by conv => lhs; whnf)) ?_
          refine TR.p 16 rfl (by kernel_rfl) (DP.mv (by conv => lhs; whnf)) ?_
          refine TR.pon 17 rfl (by kernel_rfl) rfl (DP.fa 2 rfl Tryd.underlying48 rfl rfl sz22) ?_
          refine TR.don 18 rfl (by kernel_rfl) (by kernel_rfl) (by (refine Ent.imp ?_; repeat first | exact Imp.refl _ | exact Imp.nil _ | (apply Imp.pull; focus ((repeat first | exact Del.head _ _ | apply Del.tail); done)) | (apply Imp.row; focus ((repeat first | exact Del.head _ _ | apply Del.tail); done)) | apply Imp.drop)) rfl (D.ldR (v := .int .u16 f.t) rfl pl22 (by (repeat first | exact LMem.head _ _ | apply LMem.tail)) rfl) ?_
          refine TR.pon 19 rfl (by kernel_rfl) rfl (DP.fa 2 rfl Tryd.underlying48 rfl rfl sz22) ?_
          refine TR.don 20 rfl (by kernel_rfl) (by kernel_rfl) (by (refine Ent.imp ?_; repeat first | exact Imp.refl _ | exact Imp.nil _ | (apply Imp.pull; focus ((repeat first | exact Del.head _ _ | apply Del.tail); done)) | (apply Imp.row; focus ((repeat first | exact Del.head _ _ | apply Del.tail); done)) | apply Imp.drop)) rfl (D.ldR (v := .int .u16 f.t) rfl pl22 (by (repeat first | exact LMem.head _ _ | apply LMem.tail)) rfl) ?_
          refine TR.pon 21 rfl (by kernel_rfl) rfl (DP.to (v' := .bool false) (DP.neq (a := f.t) (b := f.t) rfl rfl) (by simp)) ?_
          refine TR.p 22 rfl (by kernel_rfl) (DP.pkF rfl (by conv => lhs; whnf)) ?_
          refine TR.p 23 rfl (by kernel_rfl) (DP.mv (by conv => lhs; whnf)) ?_
          refine TR.pon 24 rfl (by kernel_rfl) rfl (DP.fa 3 rfl Tryd.underlying48 rfl rfl sz9) ?_
          refine TR.don 25 rfl (by kernel_rfl) (by kernel_rfl) (by (refine Ent.imp ?_; repeat first | exact Imp.refl _ | exact Imp.nil _ | (apply Imp.pull; focus ((repeat first | exact Del.head _ _ | apply Del.tail); done)) | (apply Imp.row; focus ((repeat first | exact Del.head _ _ | apply Del.tail); done)) | apply Imp.drop)) rfl (D.ldR (v := str (f.x ++ List.replicate (46 - f.x.length) 0)) rfl pl9 (by (repeat first | exact LMem.head _ _ | apply LMem.tail)) rfl) ?_
          refine TR.pon 26 rfl (by kernel_rfl) rfl (DP.lenT rfl Tryd.underlying9) ?_
          refine TR.pon 27 rfl (by kernel_rfl) rfl (DP.fa 3 rfl Tryd.underlying48 rfl rfl sz9) ?_
          refine TR.don 28 rfl (by kernel_rfl) (by kernel_rfl) (by (refine Ent.imp ?_; repeat first | exact Imp.refl _ | exact Imp.nil _ | (apply Imp.pull; focus ((repeat first | exact Del.head _ _ | apply Del.tail); done)) | (apply Imp.row; focus ((repeat first | exact Del.head _ _ | apply Del.tail); done)) | apply Imp.drop)) rfl (D.ldR (v := str f.x) rfl pl9 (by (repeat first | exact LMem.head _ _ | apply LMem.tail)) rfl) ?_
          refine TR.pon 29 rfl (by kernel_rfl) rfl (DP.lenT rfl Tryd.underlying9) ?_
          refine TR.pon 30 rfl (by kernel_rfl) rfl (DP.maxN (a := f.x.length) (b := 46) rfl rfl) ?_
          refine TR.pon 31 rfl (by kernel_rfl) rfl (DP.to (v' := .bool false) (DP.neq (a := (f.x ++ List.replicate (46 - f.x.length) 0).length) (b := max f.x.length 46) rfl rfl) (by rw [hxl]; simp)) ?_
          refine TR.p 32 rfl (by kernel_rfl) (DP.pkF rfl (by conv => lhs; whnf)) ?_
          refine TR.p 33 rfl (by kernel_rfl) (DP.mv (by conv => lhs; whnf)) ?_
          refine TR.pon 34 rfl (by kernel_rfl) rfl (DP.fa 3 rfl Tryd.underlying48 rfl rfl sz9) ?_
          refine TR.don 35 rfl (by kernel_rfl) (by kernel_rfl) (by (refine Ent.imp ?_; repeat first | exact Imp.refl _ | exact Imp.nil _ | (apply Imp.pull; focus ((repeat first | exact Del.head _ _ | apply Del.tail); done)) | (apply Imp.row; focus ((repeat first | exact Del.head _ _ | apply Del.tail); done)) | apply Imp.drop)) rfl (D.ldR (v := str (f.x ++ List.replicate (46 - f.x.length) 0)) rfl pl9 (by (repeat first | exact LMem.head _ _ | apply LMem.tail)) rfl) ?_
          refine TR.pon 36 rfl (by kernel_rfl) rfl (DP.fa 3 rfl Tryd.underlying48 rfl rfl sz9) ?_
          refine TR.don 37 rfl (by kernel_rfl) (by kernel_rfl) (by (refine Ent.imp ?_; repeat first | exact Imp.refl _ | exact Imp.nil _ | (apply Imp.pull; focus ((repeat first | exact Del.head _ _ | apply Del.tail); done)) | (apply Imp.row; focus ((repeat first | exact Del.head _ _ | apply Del.tail); done)) | apply Imp.drop)) rfl (D.ldR (v := str f.x) rfl pl9 (by (repeat first | exact LMem.head _ _ | apply LMem.tail)) rfl) ?_
          refine TR.pon 38 rfl (by kernel_rfl) rfl (DP.lenT rfl Tryd.underlying9) ?_
          refine TR.pon 39 rfl (by kernel_rfl) rfl (DP.to (v' := str f.x) (DP.slTh (l := (f.x ++ List.replicate (46 - f.x.length) 0)) (j := f.x.length) rfl rfl Tryd.underlying9 (by simp)) (by rw [List.take_left])) ?_
          refine TR.pon 40 rfl (by kernel_rfl) rfl (DP.fa 3 rfl Tryd.underlying48 rfl rfl sz9) ?_
          refine TR.don 41 rfl (by kernel_rfl) (by kernel_rfl) (by (refine Ent.imp ?_; repeat first | exact Imp.refl _ | exact Imp.nil _ | (apply Imp.pull; focus ((repeat first | exact Del.head _ _ | apply Del.tail); done)) | (apply Imp.row; focus ((repeat first | exact Del.head _ _ | apply Del.tail); done)) | apply Imp.drop)) rfl (D.ldR (v := str f.x) rfl pl9 (by (repeat first | exact LMem.head _ _ | apply LMem.tail)) rfl) ?_
          refine TR.pon 42 rfl (by kernel_rfl) rfl (DP.to (v' := .bool false) (DP.tneq (l := f.x) (m := f.x) rfl rfl) (by simp)) ?_
          refine TR.p 43 rfl (by kernel_rfl) (DP.pkF rfl (by conv => lhs; whnf)) ?_
          refine TR.done (by kernel_rfl) ?_
          refine TQ.nn ?_
          refine T.condF rfl ?_
          refine T.skip ?_
          refine TQ.nn ?_
          refine T.seq ?_
          refine T.reg ?_
          refine TO.p (DP.fa 3 rfl Tryd.underlying48 rfl rfl sz9) ?_
          refine TO.d (D.ldR (v := str f.x) rfl pl9 (by (repeat first | exact LMem.head _ _ | apply LMem.tail)) rfl) ?_
          refine TO.p (DP.lenT rfl Tryd.underlying9) ?_
          refine TO.p (DP.as (by conv => lhs; whnf)) ?_
          refine TO.nil ?_
          refine TQ.nn ?_
          refine T.block ?_
          refine T.loop (S := Nat) f.x.length (fun i => [(11, .int .i64 (i : Nat)), (2, str s), (3, .pointer (some ⟨b3, 0, none⟩)), (4, .pointer (some ⟨b4, 0, none⟩)), (9, .pointer (some ⟨b9, 0, none⟩))]) (fun i => row 48 b9 (frV (⟨f.d, f.s, f.t, (f.x ++ List.replicate (46 - f.x.length) 0)⟩ : Fr)) :: row 34 b4 (arV a) :: row 48 b3 (frV f) :: R) (fun i => f.x.length ≤ i ∧ i ≤ (f.x ++ List.replicate (46 - f.x.length) 0).length) (fun i => (f.x ++ List.replicate (46 - f.x.length) 0).length - i) ?_ ?_ ?_ ?_
          · (repeat first | exact trivial | refine ⟨rfl, ?_⟩)
          · (refine ⟨Nat.le_refl _, ?_⟩; simp)
          · exact Ent.refl _ _
          rintro i g ⟨hi1, hi2⟩
          refine T.seq ?_
          refine T.seq ?_
          refine T.reg ?_
          refine TO.p (DP.mv (by conv => lhs; whnf)) ?_
          refine TO.p (DP.fa 3 rfl Tryd.underlying48 rfl rfl sz9) ?_
          refine TO.d (D.ldR (v := str (f.x ++ List.replicate (46 - f.x.length) 0)) rfl pl9 (by (repeat first | exact LMem.head _ _ | apply LMem.tail)) rfl) ?_
          refine TO.p (DP.lenT rfl Tryd.underlying9) ?_
          refine TO.p ((by first | exact DP.lss rfl rfl | exact DP.lssI rfl rfl)) ?_
          refine TO.nil ?_
          refine TQ.nn ?_
          refine T.condD rfl (fun hc3 => ?_) (fun hc3 => ?_)
          · have hz : (f.x ++ List.replicate (46 - f.x.length) 0)[i]? = some 0 := by rw [List.getElem?_append_right hi1, List.getElem?_replicate, if_pos (by rw [List.length_append, List.length_replicate] at hc3; omega)]
            refine T.skip ?_
            refine TQ.nn ?_
            refine T.seq ?_
            refine T.block ?_
            refine T.seq ?_
            refine T.reg ?_
            refine TO.p (DP.fa 3 rfl Tryd.underlying48 rfl rfl sz9) ?_
            refine TO.d (D.ldR (v := str (f.x ++ List.replicate (46 - f.x.length) 0)) rfl pl9 (by (repeat first | exact LMem.head _ _ | apply LMem.tail)) rfl) ?_
            refine TO.p (DP.mv (by conv => lhs; whnf)) ?_
            refine TO.p (DP.ixT (b := 0) rfl rfl Tryd.underlying9 hz) ?_
            refine TO.p (DP.to (v' := .bool false) (DP.neq (a := 0) (b := 0) rfl rfl) (by simp)) ?_
            refine TO.nil ?_
            refine TQ.nn ?_
            refine T.condF rfl ?_
            refine T.skip ?_
            refine TQ.bn ?_
            refine TQ.nn ?_
            refine T.reg ?_
            refine TO.p (DP.mv (by conv => lhs; whnf)) ?_
            refine TO.p ((by first | exact DP.add (b := 1) rfl rfl (l := 9223372036854775808) rfl (by omega) | exact DP.addX rfl rfl)) ?_
            refine TO.p (DP.as (by conv => lhs; whnf)) ?_
            refine TO.nil ?_
            refine TQ.round (i + 1) rfl ?_ ?_ ?_ ?_
            · (repeat first | exact trivial | refine ⟨rfl, ?_⟩)
            · (exact ⟨by omega, by omega⟩)
            · omega
            · exact Ent.refl _ _
          · refine T.exit ?_
            refine TQ.ne ?_
            refine TQ.le ?_
            refine TQ.be ?_
            refine TQ.nn ?_
            refine T.seq ?_
            refine T.reg ?_
            refine TO.d (D.ldRA (cs := arV a) rfl ag34 sz34 (by (repeat first | exact LMem.head _ _ | apply LMem.tail)) rfl) ?_
            refine TO.n (N.callF (enca_spec a hao) Tryd.call18 ⟨rfl, trivial⟩ (by (repeat first | exact Pick.nil _ | (apply Pick.cons; focus ((repeat first | exact Del.head _ _ | apply Del.tail); done))))) ?_
            rintro u117 _ ⟨_, ⟨rfl, rfl⟩, rfl⟩
            try simp only [List.cons_append, List.nil_append]
            refine TO.p (DP.mv (by conv => lhs; whnf)) ?_
            refine TO.p (DP.ex rfl rfl) ?_
            refine TO.p (DP.ex rfl rfl) ?_
            refine TO.p (DP.as (by conv => lhs; whnf)) ?_
            refine TO.p (DP.as (by conv => lhs; whnf)) ?_
            refine TO.nil ?_
            refine TQ.nn ?_
            refine T.seq ?_
            refine T.seq ?_
            refine T.reg ?_
            refine TO.p (DP.mv (by conv => lhs; whnf)) ?_
            refine TO.p (DP.neq (a := (encA a).2) (b := 0) rfl rfl) ?_
            refine TO.nil ?_
            refine TQ.nn ?_
            refine T.condD rfl (fun hc5 => ?_) (fun hc5 => ?_)
            · have hm : mayE a = false := by
                cases hm : mayE a with
                | false => rfl
                | true => rw [encA_ok a hm] at hc5; exact absurd rfl hc5
              refine T.seq ?_
              refine T.reg ?_
              refine TO.p (DP.mv (by conv => lhs; whnf)) ?_
              refine TO.p (DP.to (v' := .bool true) (DP.teql (l := (encA a).1) (m := []) rfl rfl) (by rw [encA_bad a hm]; simp)) ?_
              refine TO.p (DP.mv (by conv => lhs; whnf)) ?_
              refine TO.on rfl (N.callF (works_spec) Tryd.call9 trivial (by (repeat first | exact Pick.nil _ | (apply Pick.cons; focus ((repeat first | exact Del.head _ _ | apply Del.tail); done))))) ?_
              rintro u125 _ ⟨_, ⟨rfl, rfl⟩, rfl⟩
              try simp only [List.cons_append, List.nil_append]
              refine TO.p (DP.pkT rfl (by conv => lhs; whnf)) ?_
              refine TO.p (DP.as (by conv => lhs; whnf)) ?_
              refine TO.nil ?_
              refine TQ.nn ?_
              refine T.ret ?_
              refine TQ.nr ?_
              refine TQ.ret (vs := [.bool true]) (L' := []) rfl ⟨rfl, rfl⟩ ⟨rfl, rfl⟩ (by (refine Ent.imp ?_; repeat first | exact Imp.refl _ | exact Imp.nil _ | (apply Imp.pull; focus ((repeat first | exact Del.head _ _ | apply Del.tail); done)) | (apply Imp.row; focus ((repeat first | exact Del.head _ _ | apply Del.tail); done)) | apply Imp.drop))
            · have hm : mayE a = true := by
                cases hm : mayE a with
                | true => rfl
                | false => rw [encA_bad a hm] at hc5; exact absurd (by decide) hc5
              have hea := encA_ok a hm
              have hed := dec_enca a hop hfa hta hm s
              obtain ⟨hm1, hm2, _⟩ := may_ok hm
              have hel : (hdE ++ numE a.op 2 ++ a.f ++ numE a.fa 4 ++ a.t ++ numE a.ta 4).length = 28 := by simp only [List.length_append, numE_len, hm1, hm2]; rfl
              rw [hea]
              refine T.skip ?_
              refine TQ.nn ?_
              refine T.seq ?_
              refine T.reg ?_
              refine TO.p (DP.mv (by conv => lhs; whnf)) ?_
              refine TO.p (DP.mv (by conv => lhs; whnf)) ?_
              refine TO.p (DP.cat (l := (hdE ++ numE a.op 2 ++ a.f ++ numE a.fa 4 ++ a.t ++ numE a.ta 4)) (m := s) rfl rfl (by rw [hel]; omega)) ?_
              refine TO.n (N.callF (deca_spec ((hdE ++ numE a.op 2 ++ a.f ++ numE a.fa 4 ++ a.t ++ numE a.ta 4) ++ s) (by rw [List.length_append, hel]; omega)) Tryd.call22 ⟨rfl, trivial⟩ (by (repeat first | exact Pick.nil _ | (apply Pick.cons; focus ((repeat first | exact Del.head _ _ | apply Del.tail); done))))) ?_
              rintro u131 _ ⟨_, ⟨rfl, rfl⟩, rfl⟩
              try simp only [List.cons_append, List.nil_append]
              refine TO.p (DP.mv (by conv => lhs; whnf)) ?_
              rw [hed]
              refine TO.p (DP.ex rfl rfl) ?_
              refine TO.p (DP.ex rfl rfl) ?_
              refine TO.n (N.alA zr34) ?_
              rintro _ _ ⟨b14, rfl, rfl⟩
              refine TO.n0 (N.stA (vs := arV a) rfl rfl sz34 (by (repeat first | exact Put.head _ _ _ | apply Put.tail)) (by simp [frV, arV, fr0, ar0]) (by simp [frV, arV, fr0, ar0, str, Value.oneCell']) (by rfl)) ?_
              rintro _ _ ⟨rfl, rfl⟩
              rw [show setAll _ 0 (arV a) = arV a from rfl]
              refine TO.p (DP.as (by conv => lhs; whnf)) ?_
              refine TO.nil ?_
              refine TQ.nn ?_
              refine T.seq ?_
              refine T.reg ?_
              refine TO.p (DP.mv (by conv => lhs; whnf)) ?_
              refine TO.p (DP.to (v' := .bool true) (DP.eql (a := 0) (b := 0) rfl rfl) (by simp)) ?_
              refine TO.p (DP.mv (by conv => lhs; whnf)) ?_
              refine TO.onD rfl (D.ldRA (cs := arV a) rfl ag34 sz34 (by (repeat first | exact LMem.head _ _ | apply LMem.tail)) rfl) ?_
              refine TO.onD rfl (D.ldRA (cs := arV a) rfl ag34 sz34 (by (repeat first | exact LMem.head _ _ | apply LMem.tail)) rfl) ?_
              refine TO.onP rfl (DP.to (v' := .bool true) (DP.eqOf rfl rfl eg34 (fun w => eqAr a a w)) (by simp)) ?_
              refine TO.p (DP.pkT rfl (by conv => lhs; whnf)) ?_
              refine TO.p (DP.mv (by conv => lhs; whnf)) ?_
              refine TO.on rfl (N.callF (works_spec) Tryd.call9 trivial (by (repeat first | exact Pick.nil _ | (apply Pick.cons; focus ((repeat first | exact Del.head _ _ | apply Del.tail); done))))) ?_
              rintro u142 _ ⟨_, ⟨rfl, rfl⟩, rfl⟩
              try simp only [List.cons_append, List.nil_append]
              refine TO.p (DP.pkT rfl (by conv => lhs; whnf)) ?_
              refine TO.p (DP.as (by conv => lhs; whnf)) ?_
              refine TO.nil ?_
              refine TQ.nn ?_
              refine T.ret ?_
              refine TQ.ret (vs := [.bool true]) (L' := []) rfl ⟨rfl, rfl⟩ ⟨rfl, rfl⟩ (by (refine Ent.imp ?_; repeat first | exact Imp.refl _ | exact Imp.nil _ | (apply Imp.pull; focus ((repeat first | exact Del.head _ _ | apply Del.tail); done)) | (apply Imp.row; focus ((repeat first | exact Del.head _ _ | apply Del.tail); done)) | apply Imp.drop))
        · refine T.skip ?_
          refine TQ.nn ?_
          refine T.seq ?_
          refine T.reg ?_
          refine TO.d (D.ldRA (cs := arV a) rfl ag34 sz34 (by (repeat first | exact LMem.head _ _ | apply LMem.tail)) rfl) ?_
          refine TO.n (N.callF (enca_spec a hao) Tryd.call18 ⟨rfl, trivial⟩ (by (repeat first | exact Pick.nil _ | (apply Pick.cons; focus ((repeat first | exact Del.head _ _ | apply Del.tail); done))))) ?_
          rintro u117 _ ⟨_, ⟨rfl, rfl⟩, rfl⟩
          try simp only [List.cons_append, List.nil_append]
          refine TO.p (DP.mv (by conv => lhs; whnf)) ?_
          refine TO.p (DP.ex rfl rfl) ?_
          refine TO.p (DP.ex rfl rfl) ?_
          refine TO.p (DP.as (by conv => lhs; whnf)) ?_
          refine TO.p (DP.as (by conv => lhs; whnf)) ?_
          refine TO.nil ?_
          refine TQ.nn ?_
          refine T.seq ?_
          refine T.seq ?_
          refine T.reg ?_
          refine TO.p (DP.mv (by conv => lhs; whnf)) ?_
          refine TO.p (DP.neq (a := (encA a).2) (b := 0) rfl rfl) ?_
          refine TO.nil ?_
          refine TQ.nn ?_
          refine T.condD rfl (fun hc5 => ?_) (fun hc5 => ?_)
          · have hm : mayE a = false := by
              cases hm : mayE a with
              | false => rfl
              | true => rw [encA_ok a hm] at hc5; exact absurd rfl hc5
            refine T.seq ?_
            refine T.reg ?_
            refine TO.p (DP.mv (by conv => lhs; whnf)) ?_
            refine TO.p (DP.to (v' := .bool true) (DP.teql (l := (encA a).1) (m := []) rfl rfl) (by rw [encA_bad a hm]; simp)) ?_
            refine TO.p (DP.mv (by conv => lhs; whnf)) ?_
            refine TO.on rfl (N.callF (works_spec) Tryd.call9 trivial (by (repeat first | exact Pick.nil _ | (apply Pick.cons; focus ((repeat first | exact Del.head _ _ | apply Del.tail); done))))) ?_
            rintro u125 _ ⟨_, ⟨rfl, rfl⟩, rfl⟩
            try simp only [List.cons_append, List.nil_append]
            refine TO.p (DP.pkT rfl (by conv => lhs; whnf)) ?_
            refine TO.p (DP.as (by conv => lhs; whnf)) ?_
            refine TO.nil ?_
            refine TQ.nn ?_
            refine T.ret ?_
            refine TQ.nr ?_
            refine TQ.ret (vs := [.bool true]) (L' := []) rfl ⟨rfl, rfl⟩ ⟨rfl, rfl⟩ (by (refine Ent.imp ?_; repeat first | exact Imp.refl _ | exact Imp.nil _ | (apply Imp.pull; focus ((repeat first | exact Del.head _ _ | apply Del.tail); done)) | (apply Imp.row; focus ((repeat first | exact Del.head _ _ | apply Del.tail); done)) | apply Imp.drop))
          · have hm : mayE a = true := by
              cases hm : mayE a with
              | true => rfl
              | false => rw [encA_bad a hm] at hc5; exact absurd (by decide) hc5
            have hea := encA_ok a hm
            have hed := dec_enca a hop hfa hta hm s
            obtain ⟨hm1, hm2, _⟩ := may_ok hm
            have hel : (hdE ++ numE a.op 2 ++ a.f ++ numE a.fa 4 ++ a.t ++ numE a.ta 4).length = 28 := by simp only [List.length_append, numE_len, hm1, hm2]; rfl
            rw [hea]
            refine T.skip ?_
            refine TQ.nn ?_
            refine T.seq ?_
            refine T.reg ?_
            refine TO.p (DP.mv (by conv => lhs; whnf)) ?_
            refine TO.p (DP.mv (by conv => lhs; whnf)) ?_
            refine TO.p (DP.cat (l := (hdE ++ numE a.op 2 ++ a.f ++ numE a.fa 4 ++ a.t ++ numE a.ta 4)) (m := s) rfl rfl (by rw [hel]; omega)) ?_
            refine TO.n (N.callF (deca_spec ((hdE ++ numE a.op 2 ++ a.f ++ numE a.fa 4 ++ a.t ++ numE a.ta 4) ++ s) (by rw [List.length_append, hel]; omega)) Tryd.call22 ⟨rfl, trivial⟩ (by (repeat first | exact Pick.nil _ | (apply Pick.cons; focus ((repeat first | exact Del.head _ _ | apply Del.tail); done))))) ?_
            rintro u131 _ ⟨_, ⟨rfl, rfl⟩, rfl⟩
            try simp only [List.cons_append, List.nil_append]
            refine TO.p (DP.mv (by conv => lhs; whnf)) ?_
            rw [hed]
            refine TO.p (DP.ex rfl rfl) ?_
            refine TO.p (DP.ex rfl rfl) ?_
            refine TO.n (N.alA zr34) ?_
            rintro _ _ ⟨b14, rfl, rfl⟩
            refine TO.n0 (N.stA (vs := arV a) rfl rfl sz34 (by (repeat first | exact Put.head _ _ _ | apply Put.tail)) (by simp [frV, arV, fr0, ar0]) (by simp [frV, arV, fr0, ar0, str, Value.oneCell']) (by rfl)) ?_
            rintro _ _ ⟨rfl, rfl⟩
            rw [show setAll _ 0 (arV a) = arV a from rfl]
            refine TO.p (DP.as (by conv => lhs; whnf)) ?_
            refine TO.nil ?_
            refine TQ.nn ?_
            refine T.seq ?_
            refine T.reg ?_
            refine TO.p (DP.mv (by conv => lhs; whnf)) ?_
            refine TO.p (DP.to (v' := .bool true) (DP.eql (a := 0) (b := 0) rfl rfl) (by simp)) ?_
            refine TO.p (DP.mv (by conv => lhs; whnf)) ?_
            refine TO.onD rfl (D.ldRA (cs := arV a) rfl ag34 sz34 (by (repeat first | exact LMem.head _ _ | apply LMem.tail)) rfl) ?_
            refine TO.onD rfl (D.ldRA (cs := arV a) rfl ag34 sz34 (by (repeat first | exact LMem.head _ _ | apply LMem.tail)) rfl) ?_
            refine TO.onP rfl (DP.to (v' := .bool true) (DP.eqOf rfl rfl eg34 (fun w => eqAr a a w)) (by simp)) ?_
            refine TO.p (DP.pkT rfl (by conv => lhs; whnf)) ?_
            refine TO.p (DP.mv (by conv => lhs; whnf)) ?_
            refine TO.on rfl (N.callF (works_spec) Tryd.call9 trivial (by (repeat first | exact Pick.nil _ | (apply Pick.cons; focus ((repeat first | exact Del.head _ _ | apply Del.tail); done))))) ?_
            rintro u142 _ ⟨_, ⟨rfl, rfl⟩, rfl⟩
            try simp only [List.cons_append, List.nil_append]
            refine TO.p (DP.pkT rfl (by conv => lhs; whnf)) ?_
            refine TO.p (DP.as (by conv => lhs; whnf)) ?_
            refine TO.nil ?_
            refine TQ.nn ?_
            refine T.ret ?_
            refine TQ.ret (vs := [.bool true]) (L' := []) rfl ⟨rfl, rfl⟩ ⟨rfl, rfl⟩ (by (refine Ent.imp ?_; repeat first | exact Imp.refl _ | exact Imp.nil _ | (apply Imp.pull; focus ((repeat first | exact Del.head _ _ | apply Del.tail); done)) | (apply Imp.row; focus ((repeat first | exact Del.head _ _ | apply Del.tail); done)) | apply Imp.drop))
end Go.Proofs.YtbandaebilkkkaaDoor
