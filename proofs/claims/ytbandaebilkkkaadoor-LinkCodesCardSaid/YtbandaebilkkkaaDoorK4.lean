/- Lemmas for the proofs of this seat: no statement of the seat is claimed here. -/
import Derived.Test.YtbandaebilkkkaaDoorK3
set_option linter.all false
namespace Go.Proofs.YtbandaebilkkkaaDoor
open Go Pw
set_option maxRecDepth 20000
set_option maxHeartbeats 4000000
theorem zr9 : Tryd.prog.zeroOf 9 = some (.string ⟨#[]⟩) := by kernel_rfl

theorem numE2 (x : Nat) : numE x 2 = [UInt8.ofNat (x / 256), UInt8.ofNat x] := rfl
theorem encE_len (f : Fr) (h : f.d.length ≠ 6 ∨ f.s.length ≠ 6 ∨ f.t < 1536) : encE f = ([], 2) := if_pos h
theorem encE_long (f : Fr) (h : ¬ (f.d.length ≠ 6 ∨ f.s.length ≠ 6 ∨ f.t < 1536)) (h2 : 1500 < f.x.length) : encE f = ([], 4) := by unfold encE; rw [if_neg h, if_pos h2]
theorem encE_ok (f : Fr) (h : ¬ (f.d.length ≠ 6 ∨ f.s.length ≠ 6 ∨ f.t < 1536)) (h2 : ¬ 1500 < f.x.length) : encE f = (f.d ++ f.s ++ numE f.t 2 ++ f.x ++ List.replicate (46 - f.x.length) 0, 0) := by unfold encE; rw [if_neg h, if_neg h2]
structure Fr.ok (f : Fr) : Prop where
  d : f.d.length ≤ 1048576
  s : f.s.length ≤ 1048576
  t : f.t < 65536
  x : f.x.length ≤ 1048576
structure Ar.ok (a : Ar) : Prop where
  op : a.op < 65536
  f : a.f.length ≤ 1048576
  fa : a.fa < 4294967296
  t : a.t.length ≤ 1048576
  ta : a.ta < 4294967296
theorem enc_spec (f : Fr) (hf : f.ok) :
    Sat Tryd.prog 16 [.agg (frV f).toArray] [] (fun u L' => u = .tuple #[str (encE f).1, .int .i64 ((encE f).2 : Nat)] ∧ L' = []) := by
  refine Sat.enter Tryd.func16 rfl Tryd.ntmps16 rfl (fun c R => ?_)
  try simp only [List.cons_append, List.nil_append]
  refine T.seq ?_
  refine T.reg ?_
  refine TO.n (N.bxA (cs := frV f) rfl) ?_
  rintro _ _ ⟨b1, rfl, rfl⟩
  obtain ⟨hfd, hfs, hft, hfx⟩ := hf
  refine TO.p (DP.as (by conv => lhs; whnf)) ?_
  refine TO.p (DP.as (by conv => lhs; whnf)) ?_
  refine TO.nil ?_
  refine TQ.nn ?_
  refine T.seq ?_
  refine T.block ?_
  refine T.seq ?_
  refine T.seq ?_
  refine T.reg ?_
  refine TO.p (DP.fa 0 rfl Tryd.underlying48 rfl rfl sz9) ?_
  refine TO.d (D.ldR (v := str f.d) rfl pl9 (by (repeat first | exact LMem.head _ _ | apply LMem.tail)) rfl) ?_
  refine TO.p (DP.lenT rfl Tryd.underlying9) ?_
  refine TO.p ((by first | exact DP.neq (b := 6) rfl rfl | exact DP.neqI rfl rfl)) ?_
  refine TO.p (DP.as (by conv => lhs; whnf)) ?_
  refine TO.nil ?_
  refine TQ.nn ?_
  refine T.condD rfl (fun hc0 => ?_) (fun hc0 => ?_)
  · refine T.skip ?_
    refine TQ.nn ?_
    refine T.condD rfl (fun hc2 => ?_) (fun hc2 => ?_)
    · refine T.seq ?_
      refine T.reg ?_
      refine TO.p (DP.as (by conv => lhs; whnf)) ?_
      refine TO.p (DP.as (by conv => lhs; whnf)) ?_
      refine TO.nil ?_
      refine TQ.nn ?_
      refine T.ret ?_
      refine TQ.br ?_
      refine TQ.nr ?_
      rw [encE_len f (by omega)]
      refine TQ.ret (vs := [str [], .int .i64 (2 : Nat)]) (L' := []) rfl ⟨rfl, rfl, rfl⟩ ⟨rfl, rfl⟩ (by (refine Ent.imp ?_; repeat first | exact Imp.refl _ | exact Imp.nil _ | (apply Imp.pull; focus ((repeat first | exact Del.head _ _ | apply Del.tail); done)) | (apply Imp.row; focus ((repeat first | exact Del.head _ _ | apply Del.tail); done)) | apply Imp.drop))
    · exact absurd hc0 hc2
  · refine T.seq ?_
    refine T.reg ?_
    refine TO.p (DP.fa 1 rfl Tryd.underlying48 rfl rfl sz9) ?_
    refine TO.d (D.ldR (v := str f.s) rfl pl9 (by (repeat first | exact LMem.head _ _ | apply LMem.tail)) rfl) ?_
    refine TO.p (DP.lenT rfl Tryd.underlying9) ?_
    refine TO.p ((by first | exact DP.neq (b := 6) rfl rfl | exact DP.neqI rfl rfl)) ?_
    refine TO.p (DP.as (by conv => lhs; whnf)) ?_
    refine TO.nil ?_
    refine TQ.nn ?_
    refine T.condD rfl (fun hc1 => ?_) (fun hc1 => ?_)
    · refine T.skip ?_
      refine TQ.nn ?_
      refine T.condD rfl (fun hc2 => ?_) (fun hc2 => ?_)
      · refine T.seq ?_
        refine T.reg ?_
        refine TO.p (DP.as (by conv => lhs; whnf)) ?_
        refine TO.p (DP.as (by conv => lhs; whnf)) ?_
        refine TO.nil ?_
        refine TQ.nn ?_
        refine T.ret ?_
        refine TQ.br ?_
        refine TQ.nr ?_
        rw [encE_len f (by omega)]
        refine TQ.ret (vs := [str [], .int .i64 (2 : Nat)]) (L' := []) rfl ⟨rfl, rfl, rfl⟩ ⟨rfl, rfl⟩ (by (refine Ent.imp ?_; repeat first | exact Imp.refl _ | exact Imp.nil _ | (apply Imp.pull; focus ((repeat first | exact Del.head _ _ | apply Del.tail); done)) | (apply Imp.row; focus ((repeat first | exact Del.head _ _ | apply Del.tail); done)) | apply Imp.drop))
      · exact absurd hc1 hc2
    · refine T.reg ?_
      refine TO.p (DP.fa 2 rfl Tryd.underlying48 rfl rfl sz22) ?_
      refine TO.d (D.ldR (v := .int .u16 f.t) rfl pl22 (by (repeat first | exact LMem.head _ _ | apply LMem.tail)) rfl) ?_
      refine TO.p ((by first | exact DP.lss (b := 1536) rfl rfl | exact DP.lssI rfl rfl)) ?_
      refine TO.p (DP.as (by conv => lhs; whnf)) ?_
      refine TO.nil ?_
      refine TQ.nn ?_
      refine T.condD rfl (fun hc2 => ?_) (fun hc2 => ?_)
      · refine T.seq ?_
        refine T.reg ?_
        refine TO.p (DP.as (by conv => lhs; whnf)) ?_
        refine TO.p (DP.as (by conv => lhs; whnf)) ?_
        refine TO.nil ?_
        refine TQ.nn ?_
        refine T.ret ?_
        refine TQ.br ?_
        refine TQ.nr ?_
        rw [encE_len f (by omega)]
        refine TQ.ret (vs := [str [], .int .i64 (2 : Nat)]) (L' := []) rfl ⟨rfl, rfl, rfl⟩ ⟨rfl, rfl⟩ (by (refine Ent.imp ?_; repeat first | exact Imp.refl _ | exact Imp.nil _ | (apply Imp.pull; focus ((repeat first | exact Del.head _ _ | apply Del.tail); done)) | (apply Imp.row; focus ((repeat first | exact Del.head _ _ | apply Del.tail); done)) | apply Imp.drop))
      · refine T.seq ?_
        refine T.reg ?_
        refine TO.p (DP.fa 3 rfl Tryd.underlying48 rfl rfl sz9) ?_
        refine TO.d (D.ldR (v := str f.x) rfl pl9 (by (repeat first | exact LMem.head _ _ | apply LMem.tail)) rfl) ?_
        refine TO.p (DP.lenT rfl Tryd.underlying9) ?_
        refine TO.p ((by first | exact DP.gtr (b := 1500) rfl rfl | exact DP.gtrI rfl rfl)) ?_
        refine TO.p (DP.as (by conv => lhs; whnf)) ?_
        refine TO.nil ?_
        refine TQ.nn ?_
        refine T.condD rfl (fun hc3 => ?_) (fun hc3 => ?_)
        · refine T.seq ?_
          refine T.reg ?_
          refine TO.p (DP.as (by conv => lhs; whnf)) ?_
          refine TO.p (DP.as (by conv => lhs; whnf)) ?_
          refine TO.nil ?_
          refine TQ.nn ?_
          refine T.ret ?_
          refine TQ.br ?_
          refine TQ.nr ?_
          rw [encE_long f (by omega) (by omega)]
          refine TQ.ret (vs := [str [], .int .i64 (4 : Nat)]) (L' := []) rfl ⟨rfl, rfl, rfl⟩ ⟨rfl, rfl⟩ (by (refine Ent.imp ?_; repeat first | exact Imp.refl _ | exact Imp.nil _ | (apply Imp.pull; focus ((repeat first | exact Del.head _ _ | apply Del.tail); done)) | (apply Imp.row; focus ((repeat first | exact Del.head _ _ | apply Del.tail); done)) | apply Imp.drop))
        · refine T.skip ?_
          refine TQ.bn ?_
          refine TQ.nn ?_
          refine T.seq ?_
          refine T.drawL [16, 17] mixed (by repeat first | exact Calm.rt | apply Calm.t | apply Calm.b | apply Calm.l | apply Calm.ct) ?_
          refine TR.p 0 rfl (by kernel_rfl) (DP.fa 0 rfl Tryd.underlying48 rfl rfl sz9) ?_
          refine TR.d 1 rfl (by kernel_rfl) (by kernel_rfl) (by (refine Ent.imp ?_; repeat first | exact Imp.refl _ | exact Imp.nil _ | (apply Imp.pull; focus ((repeat first | exact Del.head _ _ | apply Del.tail); done)) | (apply Imp.row; focus ((repeat first | exact Del.head _ _ | apply Del.tail); done)) | apply Imp.drop)) (D.ldR (v := str f.d) rfl pl9 (by (repeat first | exact LMem.head _ _ | apply LMem.tail)) rfl) ?_
          refine TR.p 2 rfl (by kernel_rfl) (DP.fa 1 rfl Tryd.underlying48 rfl rfl sz9) ?_
          refine TR.d 3 rfl (by kernel_rfl) (by kernel_rfl) (by (refine Ent.imp ?_; repeat first | exact Imp.refl _ | exact Imp.nil _ | (apply Imp.pull; focus ((repeat first | exact Del.head _ _ | apply Del.tail); done)) | (apply Imp.row; focus ((repeat first | exact Del.head _ _ | apply Del.tail); done)) | apply Imp.drop)) (D.ldR (v := str f.s) rfl pl9 (by (repeat first | exact LMem.head _ _ | apply LMem.tail)) rfl) ?_
          refine TR.p 4 rfl (by kernel_rfl) (DP.fa 2 rfl Tryd.underlying48 rfl rfl sz22) ?_
          refine TR.d 5 rfl (by kernel_rfl) (by kernel_rfl) (by (refine Ent.imp ?_; repeat first | exact Imp.refl _ | exact Imp.nil _ | (apply Imp.pull; focus ((repeat first | exact Del.head _ _ | apply Del.tail); done)) | (apply Imp.row; focus ((repeat first | exact Del.head _ _ | apply Del.tail); done)) | apply Imp.drop)) (D.ldR (v := .int .u16 f.t) rfl pl22 (by (repeat first | exact LMem.head _ _ | apply LMem.tail)) rfl) ?_
          refine TR.p 6 rfl (by kernel_rfl) ((by first | exact DP.cv rfl is22 Tryd.underlying31 (l := 18446744073709551616) rfl (by omega) | exact DP.cvW rfl is22 Tryd.underlying31 rfl (l := 18446744073709551616) rfl | exact DP.cvX rfl is22 Tryd.underlying31)) ?_
          refine TR.p 8 rfl (by kernel_rfl) (DP.fa 3 rfl Tryd.underlying48 rfl rfl sz9) ?_
          refine TR.d 9 rfl (by kernel_rfl) (by kernel_rfl) (by (refine Ent.imp ?_; repeat first | exact Imp.refl _ | exact Imp.nil _ | (apply Imp.pull; focus ((repeat first | exact Del.head _ _ | apply Del.tail); done)) | (apply Imp.row; focus ((repeat first | exact Del.head _ _ | apply Del.tail); done)) | apply Imp.drop)) (D.ldR (v := str f.x) rfl pl9 (by (repeat first | exact LMem.head _ _ | apply LMem.tail)) rfl) ?_
          refine TR.p 10 rfl (by kernel_rfl) (DP.fa 3 rfl Tryd.underlying48 rfl rfl sz9) ?_
          refine TR.d 11 rfl (by kernel_rfl) (by kernel_rfl) (by (refine Ent.imp ?_; repeat first | exact Imp.refl _ | exact Imp.nil _ | (apply Imp.pull; focus ((repeat first | exact Del.head _ _ | apply Del.tail); done)) | (apply Imp.row; focus ((repeat first | exact Del.head _ _ | apply Del.tail); done)) | apply Imp.drop)) (D.ldR (v := str f.x) rfl pl9 (by (repeat first | exact LMem.head _ _ | apply LMem.tail)) rfl) ?_
          refine TR.p 12 rfl (by kernel_rfl) (DP.lenT rfl Tryd.underlying9) ?_
          refine TR.p 13 rfl (by kernel_rfl) (DP.subI rfl rfl (by simp [IntKind.fits, IntKind.lim, IntKind.signed, IntKind.bits]; omega)) ?_
          refine TR.p 14 rfl (by kernel_rfl) (DP.to (v' := .int .i64 ((46 - f.x.length : Nat) : Int)) (DP.maxI rfl rfl) (by congr 1; omega)) ?_
          refine TR.n 7 (by kernel_rfl) rfl (N.callF (number_spec f.t 2 (by omega) (by omega)) Tryd.call39 ⟨rfl, rfl, trivial⟩ (by (repeat first | exact Pick.nil _ | (apply Pick.cons; focus ((repeat first | exact Del.head _ _ | apply Del.tail); done))))) ?_
          rintro u28 _ ⟨_, ⟨rfl, rfl⟩, rfl⟩
          try simp only [List.cons_append, List.nil_append]
          refine ⟨.inr (by (refine Ent.imp ?_; repeat first | exact Imp.refl _ | exact Imp.nil _ | (apply Imp.pull; focus ((repeat first | exact Del.head _ _ | apply Del.tail); done)) | (apply Imp.row; focus ((repeat first | exact Del.head _ _ | apply Del.tail); done)) | apply Imp.drop)), ?_⟩
          refine TR.n 15 (by kernel_rfl) rfl (N.callF (repeat_spec (46 - f.x.length) (by omega)) Tryd.call40 ⟨rfl, rfl, trivial⟩ (by (repeat first | exact Pick.nil _ | (apply Pick.cons; focus ((repeat first | exact Del.head _ _ | apply Del.tail); done))))) ?_
          rintro u36 _ ⟨_, ⟨rfl, rfl⟩, rfl⟩
          try simp only [List.cons_append, List.nil_append]
          refine ⟨.inr (by (refine Ent.imp ?_; repeat first | exact Imp.refl _ | exact Imp.nil _ | (apply Imp.pull; focus ((repeat first | exact Del.head _ _ | apply Del.tail); done)) | (apply Imp.row; focus ((repeat first | exact Del.head _ _ | apply Del.tail); done)) | apply Imp.drop)), ?_⟩
          refine TR.n 16 (by kernel_rfl) rfl (N.bsL (len := 5) (vs := [(0, _), (1, _), (2, _), (3, _), (4, _)]) (us := [_, _, _, _, _]) ⟨rfl, (by conv => lhs; whnf), rfl, (by conv => lhs; whnf), rfl, (by conv => lhs; whnf), rfl, (by conv => lhs; whnf), rfl, (by conv => lhs; whnf), trivial⟩ Tryd.underlying89 sz9 zr9 rfl (by omega) rfl) ?_
          rintro _ _ ⟨b37, rfl, rfl⟩
          refine ⟨.inl rfl, ?_⟩
          refine TR.n 17 (by kernel_rfl) rfl (N.callF (join_spec _ [f.d, f.s, numE f.t 2, f.x, List.replicate (46 - f.x.length) 0] (0, 0) (by show 5 ≤ 1000; omega) (by simp [numE_len]; omega)) Tryd.call38 ⟨rfl, trivial⟩ (by (repeat first | exact Pick.nil _ | (apply Pick.cons; focus ((repeat first | exact Del.head _ _ | apply Del.tail); done))))) ?_
          rintro u38 _ ⟨_, ⟨rfl, rfl⟩, rfl⟩
          try simp only [List.cons_append, List.nil_append]
          refine ⟨.inl rfl, ?_⟩
          refine TR.p 18 rfl (by kernel_rfl) (DP.as (by conv => lhs; whnf)) ?_
          refine TR.p 19 rfl (by kernel_rfl) (DP.as (by conv => lhs; whnf)) ?_
          refine TR.done (by kernel_rfl) ?_
          refine TQ.nn ?_
          refine T.ret ?_
          rw [encE_ok f (by omega) (by omega)]
          refine TQ.ret (vs := [str _, .int .i64 (0 : Nat)]) (L' := []) rfl ⟨show str _ = str _ by simp [List.append_assoc], rfl, rfl⟩ ⟨rfl, rfl⟩ (by (refine Ent.imp ?_; repeat first | exact Imp.refl _ | exact Imp.nil _ | (apply Imp.pull; focus ((repeat first | exact Del.head _ _ | apply Del.tail); done)) | (apply Imp.row; focus ((repeat first | exact Del.head _ _ | apply Del.tail); done)) | apply Imp.drop))

theorem renc_spec (f : Fr) (hf : f.ok) :
    Sat Tryd.prog 17 [.agg (frV f).toArray] [] (fun u L' => u = .tuple #[str (encE f).1, .int .i64 ((encE f).2 : Nat)] ∧ L' = []) := by
  refine Sat.enter Tryd.func17 rfl Tryd.ntmps17 rfl (fun c R => ?_)
  try simp only [List.cons_append, List.nil_append]
  refine T.seq ?_
  refine T.reg ?_
  refine TO.n (N.bxA (cs := frV f) rfl) ?_
  rintro _ _ ⟨b1, rfl, rfl⟩
  obtain ⟨hfd, hfs, hft, hfx⟩ := hf
  refine TO.p (DP.as (by conv => lhs; whnf)) ?_
  refine TO.p (DP.as (by conv => lhs; whnf)) ?_
  refine TO.nil ?_
  refine TQ.nn ?_
  refine T.seq ?_
  refine T.seq ?_
  refine T.reg ?_
  refine TO.p (DP.fa 0 rfl Tryd.underlying48 rfl rfl sz9) ?_
  refine TO.d (D.ldR (v := str f.d) rfl pl9 (by (repeat first | exact LMem.head _ _ | apply LMem.tail)) rfl) ?_
  refine TO.p (DP.lenT rfl Tryd.underlying9) ?_
  refine TO.p ((by first | exact DP.neq (b := 6) rfl rfl | exact DP.neqI rfl rfl)) ?_
  refine TO.pB (DP.mv (by conv => lhs; whnf)) (fun hg8 => ?_) (fun hg8 => ?_)
  · refine TO.off rfl rfl ?_
    refine TO.off rfl rfl ?_
    refine TO.off rfl rfl ?_
    refine TO.off rfl rfl ?_
    refine TO.p (DP.pkT rfl (by conv => lhs; whnf)) ?_
    refine TO.p (DP.mv (by conv => lhs; whnf)) ?_
    refine TO.off rfl rfl ?_
    refine TO.off rfl rfl ?_
    refine TO.off rfl rfl ?_
    refine TO.p (DP.pkT rfl (by conv => lhs; whnf)) ?_
    refine TO.nil ?_
    refine TQ.nn ?_
    refine T.condT rfl ?_
    refine T.seq ?_
    refine T.reg ?_
    refine TO.p (DP.as (by conv => lhs; whnf)) ?_
    refine TO.p (DP.as (by conv => lhs; whnf)) ?_
    refine TO.nil ?_
    refine TQ.nn ?_
    refine T.ret ?_
    refine TQ.nr ?_
    rw [encE_len f (by omega)]
    refine TQ.ret (vs := [str [], .int .i64 (2 : Nat)]) (L' := []) rfl ⟨rfl, rfl, rfl⟩ ⟨rfl, rfl⟩ (by (refine Ent.imp ?_; repeat first | exact Imp.refl _ | exact Imp.nil _ | (apply Imp.pull; focus ((repeat first | exact Del.head _ _ | apply Del.tail); done)) | (apply Imp.row; focus ((repeat first | exact Del.head _ _ | apply Del.tail); done)) | apply Imp.drop))
  · refine TO.onP rfl (DP.fa 1 rfl Tryd.underlying48 rfl rfl sz9) ?_
    refine TO.onD rfl (D.ldR (v := str f.s) rfl pl9 (by (repeat first | exact LMem.head _ _ | apply LMem.tail)) rfl) ?_
    refine TO.onP rfl (DP.lenT rfl Tryd.underlying9) ?_
    refine TO.onP rfl ((by first | exact DP.neq (b := 6) rfl rfl | exact DP.neqI rfl rfl)) ?_
    refine TO.p (DP.pkF rfl (by conv => lhs; whnf)) ?_
    refine TO.pB (DP.mv (by conv => lhs; whnf)) (fun hg14 => ?_) (fun hg14 => ?_)
    · refine TO.off rfl rfl ?_
      refine TO.off rfl rfl ?_
      refine TO.off rfl rfl ?_
      refine TO.p (DP.pkT rfl (by conv => lhs; whnf)) ?_
      refine TO.nil ?_
      refine TQ.nn ?_
      refine T.condT rfl ?_
      refine T.seq ?_
      refine T.reg ?_
      refine TO.p (DP.as (by conv => lhs; whnf)) ?_
      refine TO.p (DP.as (by conv => lhs; whnf)) ?_
      refine TO.nil ?_
      refine TQ.nn ?_
      refine T.ret ?_
      refine TQ.nr ?_
      rw [encE_len f (by omega)]
      refine TQ.ret (vs := [str [], .int .i64 (2 : Nat)]) (L' := []) rfl ⟨rfl, rfl, rfl⟩ ⟨rfl, rfl⟩ (by (refine Ent.imp ?_; repeat first | exact Imp.refl _ | exact Imp.nil _ | (apply Imp.pull; focus ((repeat first | exact Del.head _ _ | apply Del.tail); done)) | (apply Imp.row; focus ((repeat first | exact Del.head _ _ | apply Del.tail); done)) | apply Imp.drop))
    · refine TO.onP rfl (DP.fa 2 rfl Tryd.underlying48 rfl rfl sz22) ?_
      refine TO.onD rfl (D.ldR (v := .int .u16 f.t) rfl pl22 (by (repeat first | exact LMem.head _ _ | apply LMem.tail)) rfl) ?_
      refine TO.onP rfl ((by first | exact DP.lss (b := 1536) rfl rfl | exact DP.lssI rfl rfl)) ?_
      refine TO.p (DP.pkF rfl (by conv => lhs; whnf)) ?_
      refine TO.nil ?_
      refine TQ.nn ?_
      refine T.condD rfl (fun hc0 => ?_) (fun hc0 => ?_)
      · refine T.seq ?_
        refine T.reg ?_
        refine TO.p (DP.as (by conv => lhs; whnf)) ?_
        refine TO.p (DP.as (by conv => lhs; whnf)) ?_
        refine TO.nil ?_
        refine TQ.nn ?_
        refine T.ret ?_
        refine TQ.nr ?_
        rw [encE_len f (by omega)]
        refine TQ.ret (vs := [str [], .int .i64 (2 : Nat)]) (L' := []) rfl ⟨rfl, rfl, rfl⟩ ⟨rfl, rfl⟩ (by (refine Ent.imp ?_; repeat first | exact Imp.refl _ | exact Imp.nil _ | (apply Imp.pull; focus ((repeat first | exact Del.head _ _ | apply Del.tail); done)) | (apply Imp.row; focus ((repeat first | exact Del.head _ _ | apply Del.tail); done)) | apply Imp.drop))
      · refine T.skip ?_
        refine TQ.nn ?_
        refine T.seq ?_
        refine T.seq ?_
        refine T.reg ?_
        refine TO.p (DP.fa 3 rfl Tryd.underlying48 rfl rfl sz9) ?_
        refine TO.d (D.ldR (v := str f.x) rfl pl9 (by (repeat first | exact LMem.head _ _ | apply LMem.tail)) rfl) ?_
        refine TO.p (DP.lenT rfl Tryd.underlying9) ?_
        refine TO.p ((by first | exact DP.gtr (b := 1500) rfl rfl | exact DP.gtrI rfl rfl)) ?_
        refine TO.nil ?_
        refine TQ.nn ?_
        refine T.condD rfl (fun hc1 => ?_) (fun hc1 => ?_)
        · refine T.seq ?_
          refine T.reg ?_
          refine TO.p (DP.as (by conv => lhs; whnf)) ?_
          refine TO.p (DP.as (by conv => lhs; whnf)) ?_
          refine TO.nil ?_
          refine TQ.nn ?_
          refine T.ret ?_
          refine TQ.nr ?_
          rw [encE_long f (by omega) (by omega)]
          refine TQ.ret (vs := [str [], .int .i64 (4 : Nat)]) (L' := []) rfl ⟨rfl, rfl, rfl⟩ ⟨rfl, rfl⟩ (by (refine Ent.imp ?_; repeat first | exact Imp.refl _ | exact Imp.nil _ | (apply Imp.pull; focus ((repeat first | exact Del.head _ _ | apply Del.tail); done)) | (apply Imp.row; focus ((repeat first | exact Del.head _ _ | apply Del.tail); done)) | apply Imp.drop))
        · refine T.skip ?_
          refine TQ.nn ?_
          refine T.seq ?_
          refine T.drawL [] mixed (by repeat first | exact Calm.rt | apply Calm.t | apply Calm.b | apply Calm.l | apply Calm.ct) ?_
          refine TR.p 0 rfl (by kernel_rfl) (DP.fa 0 rfl Tryd.underlying48 rfl rfl sz9) ?_
          refine TR.d 1 rfl (by kernel_rfl) (by kernel_rfl) (by (refine Ent.imp ?_; repeat first | exact Imp.refl _ | exact Imp.nil _ | (apply Imp.pull; focus ((repeat first | exact Del.head _ _ | apply Del.tail); done)) | (apply Imp.row; focus ((repeat first | exact Del.head _ _ | apply Del.tail); done)) | apply Imp.drop)) (D.ldR (v := str f.d) rfl pl9 (by (repeat first | exact LMem.head _ _ | apply LMem.tail)) rfl) ?_
          refine TR.p 2 rfl (by kernel_rfl) (DP.fa 1 rfl Tryd.underlying48 rfl rfl sz9) ?_
          refine TR.d 3 rfl (by kernel_rfl) (by kernel_rfl) (by (refine Ent.imp ?_; repeat first | exact Imp.refl _ | exact Imp.nil _ | (apply Imp.pull; focus ((repeat first | exact Del.head _ _ | apply Del.tail); done)) | (apply Imp.row; focus ((repeat first | exact Del.head _ _ | apply Del.tail); done)) | apply Imp.drop)) (D.ldR (v := str f.s) rfl pl9 (by (repeat first | exact LMem.head _ _ | apply LMem.tail)) rfl) ?_
          refine TR.p 4 rfl (by kernel_rfl) (DP.cat (l := f.d) (m := f.s) rfl rfl (by (try simp only [List.length_append, List.length_replicate, numE_len]); omega)) ?_
          refine TR.p 5 rfl (by kernel_rfl) (DP.fa 2 rfl Tryd.underlying48 rfl rfl sz22) ?_
          refine TR.d 6 rfl (by kernel_rfl) (by kernel_rfl) (by (refine Ent.imp ?_; repeat first | exact Imp.refl _ | exact Imp.nil _ | (apply Imp.pull; focus ((repeat first | exact Del.head _ _ | apply Del.tail); done)) | (apply Imp.row; focus ((repeat first | exact Del.head _ _ | apply Del.tail); done)) | apply Imp.drop)) (D.ldR (v := .int .u16 f.t) rfl pl22 (by (repeat first | exact LMem.head _ _ | apply LMem.tail)) rfl) ?_
          refine TR.p 7 rfl (by kernel_rfl) ((by first | exact DP.cv rfl is22 Tryd.underlying31 (l := 18446744073709551616) rfl (by omega) | exact DP.cvW rfl is22 Tryd.underlying31 rfl (l := 18446744073709551616) rfl | exact DP.cvX rfl is22 Tryd.underlying31)) ?_
          refine TR.p 10 rfl (by kernel_rfl) (DP.fa 3 rfl Tryd.underlying48 rfl rfl sz9) ?_
          refine TR.d 11 rfl (by kernel_rfl) (by kernel_rfl) (by (refine Ent.imp ?_; repeat first | exact Imp.refl _ | exact Imp.nil _ | (apply Imp.pull; focus ((repeat first | exact Del.head _ _ | apply Del.tail); done)) | (apply Imp.row; focus ((repeat first | exact Del.head _ _ | apply Del.tail); done)) | apply Imp.drop)) (D.ldR (v := str f.x) rfl pl9 (by (repeat first | exact LMem.head _ _ | apply LMem.tail)) rfl) ?_
          refine TR.p 13 rfl (by kernel_rfl) (DP.fa 3 rfl Tryd.underlying48 rfl rfl sz9) ?_
          refine TR.d 14 rfl (by kernel_rfl) (by kernel_rfl) (by (refine Ent.imp ?_; repeat first | exact Imp.refl _ | exact Imp.nil _ | (apply Imp.pull; focus ((repeat first | exact Del.head _ _ | apply Del.tail); done)) | (apply Imp.row; focus ((repeat first | exact Del.head _ _ | apply Del.tail); done)) | apply Imp.drop)) (D.ldR (v := str f.x) rfl pl9 (by (repeat first | exact LMem.head _ _ | apply LMem.tail)) rfl) ?_
          refine TR.p 15 rfl (by kernel_rfl) (DP.lenT rfl Tryd.underlying9) ?_
          refine TR.p 16 rfl (by kernel_rfl) (DP.subI rfl rfl (by simp [IntKind.fits, IntKind.lim, IntKind.signed, IntKind.bits]; omega)) ?_
          refine TR.p 17 rfl (by kernel_rfl) (DP.to (v' := .int .i64 ((46 - f.x.length : Nat) : Int)) (DP.maxI rfl rfl) (by congr 1; omega)) ?_
          refine TR.two 8 18 (by kernel_rfl) rfl (N.callF (rnum_spec f.t 2 (by omega) (by omega)) Tryd.call41 ⟨rfl, rfl, trivial⟩ (by (repeat first | exact Pick.nil _ | (apply Pick.cons; focus ((repeat first | exact Del.head _ _ | apply Del.tail); done))))) rfl (N.mk (n := 46 - f.x.length) rfl rfl Tryd.underlying60 sz5 by5 zr5 rfl rfl (by omega)) ?_ ?_
          · rintro u31 _ ⟨_, ⟨rfl, rfl⟩, rfl⟩
            try simp only [List.cons_append, List.nil_append]
            refine ⟨.inr (by (refine Ent.imp ?_; repeat first | exact Imp.refl _ | exact Imp.nil _ | (apply Imp.pull; focus ((repeat first | exact Del.head _ _ | apply Del.tail); done)) | (apply Imp.row; focus ((repeat first | exact Del.head _ _ | apply Del.tail); done)) | apply Imp.drop)), ?_⟩
            refine TR.p 9 rfl (by kernel_rfl) (DP.cat (l := f.d ++ f.s) (m := numE f.t 2) rfl rfl (by (try simp only [List.length_append, List.length_replicate, numE_len]); omega)) ?_
            refine TR.p 12 rfl (by kernel_rfl) (DP.cat (l := f.d ++ f.s ++ numE f.t 2) (m := f.x) rfl rfl (by (try simp only [List.length_append, List.length_replicate, numE_len]); omega)) ?_
            refine TR.n 18 (by kernel_rfl) rfl (N.mk (n := 46 - f.x.length) rfl rfl Tryd.underlying60 sz5 by5 zr5 rfl rfl (by omega)) ?_
            rintro _ _ ⟨b41, rfl, rfl⟩
            refine ⟨.inr (by (refine Ent.imp ?_; repeat first | exact Imp.refl _ | exact Imp.nil _ | (apply Imp.pull; focus ((repeat first | exact Del.head _ _ | apply Del.tail); done)) | (apply Imp.row; focus ((repeat first | exact Del.head _ _ | apply Del.tail); done)) | apply Imp.drop)), ?_⟩
            refine TR.n 19 (by kernel_rfl) rfl (D.n (D.cbs (l := List.replicate (46 - f.x.length) 0) (A := row 5 b41 (List.replicate (46 - f.x.length) [Value.int .u8 0]).flatten) rfl Tryd.underlying60 Tryd.underlying9 Tryd.underlying5 (by simp) (by (repeat first | exact LMem.head _ _ | apply LMem.tail)) (ReadsN.row (fun j v hv => by rw [Nat.zero_add, ← hv]; congr 1; simp [byteV])))) ?_
            rintro _ _ ⟨rfl, rfl⟩
            refine ⟨.inr (by (refine Ent.imp ?_; repeat first | exact Imp.refl _ | exact Imp.nil _ | (apply Imp.pull; focus ((repeat first | exact Del.head _ _ | apply Del.tail); done)) | (apply Imp.row; focus ((repeat first | exact Del.head _ _ | apply Del.tail); done)) | apply Imp.drop)), ?_⟩
            refine TR.p 20 rfl (by kernel_rfl) (DP.cat (l := f.d ++ f.s ++ numE f.t 2 ++ f.x) (m := List.replicate (46 - f.x.length) 0) rfl rfl (by (try simp only [List.length_append, List.length_replicate, numE_len]); omega)) ?_
            refine TR.p 21 rfl (by kernel_rfl) (DP.as (by conv => lhs; whnf)) ?_
            refine TR.p 22 rfl (by kernel_rfl) (DP.as (by conv => lhs; whnf)) ?_
            refine TR.done (by kernel_rfl) ?_
            refine TQ.nn ?_
            refine T.ret ?_
            rw [encE_ok f (by omega) (by omega)]
            refine TQ.ret (vs := [str _, .int .i64 (0 : Nat)]) (L' := []) rfl ⟨show str _ = str _ by simp [List.append_assoc], rfl, rfl⟩ ⟨rfl, rfl⟩ (by (refine Ent.imp ?_; repeat first | exact Imp.refl _ | exact Imp.nil _ | (apply Imp.pull; focus ((repeat first | exact Del.head _ _ | apply Del.tail); done)) | (apply Imp.row; focus ((repeat first | exact Del.head _ _ | apply Del.tail); done)) | apply Imp.drop))
          · rintro _ _ ⟨b41, rfl, rfl⟩
            refine ⟨.inr (by (refine Ent.imp ?_; repeat first | exact Imp.refl _ | exact Imp.nil _ | (apply Imp.pull; focus ((repeat first | exact Del.head _ _ | apply Del.tail); done)) | (apply Imp.row; focus ((repeat first | exact Del.head _ _ | apply Del.tail); done)) | apply Imp.drop)), ?_⟩
            refine TR.two 8 19 (by kernel_rfl) rfl (N.callF (rnum_spec f.t 2 (by omega) (by omega)) Tryd.call41 ⟨rfl, rfl, trivial⟩ (by (repeat first | exact Pick.nil _ | (apply Pick.cons; focus ((repeat first | exact Del.head _ _ | apply Del.tail); done))))) rfl (D.n (D.cbs (l := List.replicate (46 - f.x.length) 0) (A := row 5 b41 (List.replicate (46 - f.x.length) [Value.int .u8 0]).flatten) rfl Tryd.underlying60 Tryd.underlying9 Tryd.underlying5 (by simp) (by (repeat first | exact LMem.head _ _ | apply LMem.tail)) (ReadsN.row (fun j v hv => by rw [Nat.zero_add, ← hv]; congr 1; simp [byteV])))) ?_ ?_
            · rintro u31 _ ⟨_, ⟨rfl, rfl⟩, rfl⟩
              try simp only [List.cons_append, List.nil_append]
              refine ⟨.inr (by (refine Ent.imp ?_; repeat first | exact Imp.refl _ | exact Imp.nil _ | (apply Imp.pull; focus ((repeat first | exact Del.head _ _ | apply Del.tail); done)) | (apply Imp.row; focus ((repeat first | exact Del.head _ _ | apply Del.tail); done)) | apply Imp.drop)), ?_⟩
              refine TR.p 9 rfl (by kernel_rfl) (DP.cat (l := f.d ++ f.s) (m := numE f.t 2) rfl rfl (by (try simp only [List.length_append, List.length_replicate, numE_len]); omega)) ?_
              refine TR.p 12 rfl (by kernel_rfl) (DP.cat (l := f.d ++ f.s ++ numE f.t 2) (m := f.x) rfl rfl (by (try simp only [List.length_append, List.length_replicate, numE_len]); omega)) ?_
              refine TR.n 19 (by kernel_rfl) rfl (D.n (D.cbs (l := List.replicate (46 - f.x.length) 0) (A := row 5 b41 (List.replicate (46 - f.x.length) [Value.int .u8 0]).flatten) rfl Tryd.underlying60 Tryd.underlying9 Tryd.underlying5 (by simp) (by (repeat first | exact LMem.head _ _ | apply LMem.tail)) (ReadsN.row (fun j v hv => by rw [Nat.zero_add, ← hv]; congr 1; simp [byteV])))) ?_
              rintro _ _ ⟨rfl, rfl⟩
              refine ⟨.inr (by (refine Ent.imp ?_; repeat first | exact Imp.refl _ | exact Imp.nil _ | (apply Imp.pull; focus ((repeat first | exact Del.head _ _ | apply Del.tail); done)) | (apply Imp.row; focus ((repeat first | exact Del.head _ _ | apply Del.tail); done)) | apply Imp.drop)), ?_⟩
              refine TR.p 20 rfl (by kernel_rfl) (DP.cat (l := f.d ++ f.s ++ numE f.t 2 ++ f.x) (m := List.replicate (46 - f.x.length) 0) rfl rfl (by (try simp only [List.length_append, List.length_replicate, numE_len]); omega)) ?_
              refine TR.p 21 rfl (by kernel_rfl) (DP.as (by conv => lhs; whnf)) ?_
              refine TR.p 22 rfl (by kernel_rfl) (DP.as (by conv => lhs; whnf)) ?_
              refine TR.done (by kernel_rfl) ?_
              refine TQ.nn ?_
              refine T.ret ?_
              rw [encE_ok f (by omega) (by omega)]
              refine TQ.ret (vs := [str _, .int .i64 (0 : Nat)]) (L' := []) rfl ⟨show str _ = str _ by simp [List.append_assoc], rfl, rfl⟩ ⟨rfl, rfl⟩ (by (refine Ent.imp ?_; repeat first | exact Imp.refl _ | exact Imp.nil _ | (apply Imp.pull; focus ((repeat first | exact Del.head _ _ | apply Del.tail); done)) | (apply Imp.row; focus ((repeat first | exact Del.head _ _ | apply Del.tail); done)) | apply Imp.drop))
            · rintro _ _ ⟨rfl, rfl⟩
              refine ⟨.inr (by (refine Ent.imp ?_; repeat first | exact Imp.refl _ | exact Imp.nil _ | (apply Imp.pull; focus ((repeat first | exact Del.head _ _ | apply Del.tail); done)) | (apply Imp.row; focus ((repeat first | exact Del.head _ _ | apply Del.tail); done)) | apply Imp.drop)), ?_⟩
              refine TR.n 8 (by kernel_rfl) rfl (N.callF (rnum_spec f.t 2 (by omega) (by omega)) Tryd.call41 ⟨rfl, rfl, trivial⟩ (by (repeat first | exact Pick.nil _ | (apply Pick.cons; focus ((repeat first | exact Del.head _ _ | apply Del.tail); done))))) ?_
              rintro u31 _ ⟨_, ⟨rfl, rfl⟩, rfl⟩
              try simp only [List.cons_append, List.nil_append]
              refine ⟨.inr (by (refine Ent.imp ?_; repeat first | exact Imp.refl _ | exact Imp.nil _ | (apply Imp.pull; focus ((repeat first | exact Del.head _ _ | apply Del.tail); done)) | (apply Imp.row; focus ((repeat first | exact Del.head _ _ | apply Del.tail); done)) | apply Imp.drop)), ?_⟩
              refine TR.p 9 rfl (by kernel_rfl) (DP.cat (l := f.d ++ f.s) (m := numE f.t 2) rfl rfl (by (try simp only [List.length_append, List.length_replicate, numE_len]); omega)) ?_
              refine TR.p 12 rfl (by kernel_rfl) (DP.cat (l := f.d ++ f.s ++ numE f.t 2) (m := f.x) rfl rfl (by (try simp only [List.length_append, List.length_replicate, numE_len]); omega)) ?_
              refine TR.p 20 rfl (by kernel_rfl) (DP.cat (l := f.d ++ f.s ++ numE f.t 2 ++ f.x) (m := List.replicate (46 - f.x.length) 0) rfl rfl (by (try simp only [List.length_append, List.length_replicate, numE_len]); omega)) ?_
              refine TR.p 21 rfl (by kernel_rfl) (DP.as (by conv => lhs; whnf)) ?_
              refine TR.p 22 rfl (by kernel_rfl) (DP.as (by conv => lhs; whnf)) ?_
              refine TR.done (by kernel_rfl) ?_
              refine TQ.nn ?_
              refine T.ret ?_
              rw [encE_ok f (by omega) (by omega)]
              refine TQ.ret (vs := [str _, .int .i64 (0 : Nat)]) (L' := []) rfl ⟨show str _ = str _ by simp [List.append_assoc], rfl, rfl⟩ ⟨rfl, rfl⟩ (by (refine Ent.imp ?_; repeat first | exact Imp.refl _ | exact Imp.nil _ | (apply Imp.pull; focus ((repeat first | exact Del.head _ _ | apply Del.tail); done)) | (apply Imp.row; focus ((repeat first | exact Del.head _ _ | apply Del.tail); done)) | apply Imp.drop))
end Go.Proofs.YtbandaebilkkkaaDoor
