/- Lemmas for the proofs of this seat: no statement of the seat is claimed here. -/
import Derived.Test.YtbandaebilkkkaaDoorK4
set_option linter.all false
namespace Go.Proofs.YtbandaebilkkkaaDoor
open Go Pw
set_option maxRecDepth 20000
set_option maxHeartbeats 4000000

theorem encA_bad (a : Ar) (h : mayE a = false) : encA a = ([], 2) := by unfold encA; rw [h]; rfl
theorem encA_ok (a : Ar) (h : mayE a = true) : encA a = (hdE ++ numE a.op 2 ++ a.f ++ numE a.fa 4 ++ a.t ++ numE a.ta 4, 0) := by unfold encA; rw [h]; rfl
theorem may_ok {a : Ar} (h : mayE a = true) : a.f.length = 6 ∧ a.t.length = 6 ∧ (a.op = 1 ∨ a.op = 2) := by
  simp [mayE] at h; exact ⟨h.1.2, h.2, h.1.1⟩
theorem trim_ne (m : List UInt8) (h : m.length = 6) : Lib.trimB m 0 ≠ [] ↔ m ≠ List.replicate 6 0 := by
  rw [ne_eq, trim_nil, h]
theorem alone_at {c0 : UInt8} {m2 : List UInt8} (h : (c0 :: m2).length = 6) (h2 : c0.toNat &&& 1 = 0) : aloneE (c0 :: m2) = decide (c0 :: m2 ≠ List.replicate 6 0) := by
  unfold aloneE; rw [decide_eq_true h, List.headD_cons, decide_eq_true h2]; rfl
theorem alone_tr {c0 : UInt8} {m2 : List UInt8} (h : (c0 :: m2).length = 6) (h2 : c0.toNat &&& 1 = 0) : decide (Lib.trimB (c0 :: m2) 0 ≠ []) = aloneE (c0 :: m2) := by
  rw [alone_at h h2]; exact decide_eq_decide.2 (trim_ne _ h)
theorem enca_spec (a : Ar) (ha : a.ok) :
    Sat Tryd.prog 18 [.agg (arV a).toArray] [] (fun u L' => u = .tuple #[str (encA a).1, .int .i64 ((encA a).2 : Nat)] ∧ L' = []) := by
  refine Sat.enter Tryd.func18 rfl Tryd.ntmps18 rfl (fun c R => ?_)
  try simp only [List.cons_append, List.nil_append]
  refine T.seq ?_
  refine T.reg ?_
  refine TO.n (N.bxA (cs := arV a) rfl) ?_
  rintro _ _ ⟨b1, rfl, rfl⟩
  obtain ⟨hop, haf, hfa, hat, hta⟩ := ha
  refine TO.p (DP.as (by conv => lhs; whnf)) ?_
  refine TO.p (DP.as (by conv => lhs; whnf)) ?_
  refine TO.nil ?_
  refine TQ.nn ?_
  refine T.seq ?_
  refine T.seq ?_
  refine T.reg ?_
  refine TO.d (D.ldRA (cs := arV a) rfl ag34 sz34 (by (repeat first | exact LMem.head _ _ | apply LMem.tail)) rfl) ?_
  refine TO.n (N.callF (may_spec a) Tryd.call33 ⟨rfl, trivial⟩ (by (repeat first | exact Pick.nil _ | (apply Pick.cons; focus ((repeat first | exact Del.head _ _ | apply Del.tail); done))))) ?_
  rintro u6 _ ⟨_, ⟨rfl, rfl⟩, rfl⟩
  try simp only [List.cons_append, List.nil_append]
  refine TO.p (DP.not rfl) ?_
  refine TO.nil ?_
  refine TQ.nn ?_
  refine T.condB rfl (fun hc0 => ?_) (fun hc0 => ?_)
  · refine T.seq ?_
    refine T.reg ?_
    refine TO.p (DP.as (by conv => lhs; whnf)) ?_
    refine TO.p (DP.as (by conv => lhs; whnf)) ?_
    refine TO.nil ?_
    refine TQ.nn ?_
    refine T.ret ?_
    refine TQ.nr ?_
    rw [encA_bad a (by simpa using hc0)]
    refine TQ.ret (vs := [str [], .int .i64 (2 : Nat)]) (L' := []) rfl ⟨rfl, rfl, rfl⟩ ⟨rfl, rfl⟩ (by (refine Ent.imp ?_; repeat first | exact Imp.refl _ | exact Imp.nil _ | (apply Imp.pull; focus ((repeat first | exact Del.head _ _ | apply Del.tail); done)) | (apply Imp.row; focus ((repeat first | exact Del.head _ _ | apply Del.tail); done)) | apply Imp.drop))
  · have hm : mayE a = true := by simpa using hc0
    obtain ⟨hm1, hm2, hm3⟩ := may_ok hm
    refine T.skip ?_
    refine TQ.nn ?_
    refine T.seq ?_
    refine T.reg ?_
    refine TO.n (N.callF (first_spec) Tryd.call42 trivial (by (repeat first | exact Pick.nil _ | (apply Pick.cons; focus ((repeat first | exact Del.head _ _ | apply Del.tail); done))))) ?_
    rintro u8 _ ⟨_, ⟨rfl, rfl⟩, rfl⟩
    try simp only [List.cons_append, List.nil_append]
    refine TO.n (N.alA zr74) ?_
    rintro _ _ ⟨b4, rfl, rfl⟩
    refine TO.n0 (N.stA (vs := hdE.map byteV) rfl rfl sz74 (by (repeat first | exact Put.head _ _ _ | apply Put.tail)) (by simp [hdE]) (by simp [hdE, byteV, Value.oneCell']) (by rfl)) ?_
    rintro _ _ ⟨rfl, rfl⟩
    rw [show setAll _ 0 (hdE.map byteV) = hdE.map byteV from rfl]
    refine TO.nil ?_
    refine TQ.nn ?_
    refine T.seq ?_
    refine T.drawL [18, 19] mixed (by repeat first | exact Calm.rt | apply Calm.t | apply Calm.b | apply Calm.l | apply Calm.ct) ?_
    refine TR.p 0 rfl (by kernel_rfl) (DP.slAa rfl Tryd.underlying74 sz5) ?_
    refine TR.d 1 rfl (by kernel_rfl) (by kernel_rfl) (by (refine Ent.imp ?_; repeat first | exact Imp.refl _ | exact Imp.nil _ | (apply Imp.pull; focus ((repeat first | exact Del.head _ _ | apply Del.tail); done)) | (apply Imp.row; focus ((repeat first | exact Del.head _ _ | apply Del.tail); done)) | apply Imp.drop)) (D.cbs (l := hdE) (A := row 74 b4 (hdE.map byteV)) rfl Tryd.underlying60 Tryd.underlying9 Tryd.underlying5 rfl (by (repeat first | exact LMem.head _ _ | apply LMem.tail)) (ReadsN.row (fun j v hv => by rw [Nat.zero_add]; exact hv))) ?_
    refine TR.p 2 rfl (by kernel_rfl) (DP.fa 0 rfl Tryd.underlying34 rfl rfl sz22) ?_
    refine TR.d 3 rfl (by kernel_rfl) (by kernel_rfl) (by (refine Ent.imp ?_; repeat first | exact Imp.refl _ | exact Imp.nil _ | (apply Imp.pull; focus ((repeat first | exact Del.head _ _ | apply Del.tail); done)) | (apply Imp.row; focus ((repeat first | exact Del.head _ _ | apply Del.tail); done)) | apply Imp.drop)) (D.ldR (v := .int .u16 a.op) rfl pl22 (by (repeat first | exact LMem.head _ _ | apply LMem.tail)) rfl) ?_
    refine TR.p 4 rfl (by kernel_rfl) ((by first | exact DP.cv rfl is22 Tryd.underlying31 (l := 18446744073709551616) rfl (by omega) | exact DP.cvW rfl is22 Tryd.underlying31 rfl (l := 18446744073709551616) rfl | exact DP.cvX rfl is22 Tryd.underlying31)) ?_
    refine TR.p 6 rfl (by kernel_rfl) (DP.fa 1 rfl Tryd.underlying34 rfl rfl sz9) ?_
    refine TR.d 7 rfl (by kernel_rfl) (by kernel_rfl) (by (refine Ent.imp ?_; repeat first | exact Imp.refl _ | exact Imp.nil _ | (apply Imp.pull; focus ((repeat first | exact Del.head _ _ | apply Del.tail); done)) | (apply Imp.row; focus ((repeat first | exact Del.head _ _ | apply Del.tail); done)) | apply Imp.drop)) (D.ldR (v := str a.f) rfl pl9 (by (repeat first | exact LMem.head _ _ | apply LMem.tail)) rfl) ?_
    refine TR.p 8 rfl (by kernel_rfl) (DP.fa 2 rfl Tryd.underlying34 rfl rfl sz26) ?_
    refine TR.d 9 rfl (by kernel_rfl) (by kernel_rfl) (by (refine Ent.imp ?_; repeat first | exact Imp.refl _ | exact Imp.nil _ | (apply Imp.pull; focus ((repeat first | exact Del.head _ _ | apply Del.tail); done)) | (apply Imp.row; focus ((repeat first | exact Del.head _ _ | apply Del.tail); done)) | apply Imp.drop)) (D.ldR (v := .int .u32 a.fa) rfl pl26 (by (repeat first | exact LMem.head _ _ | apply LMem.tail)) rfl) ?_
    refine TR.p 10 rfl (by kernel_rfl) ((by first | exact DP.cv rfl is26 Tryd.underlying31 (l := 18446744073709551616) rfl (by omega) | exact DP.cvW rfl is26 Tryd.underlying31 rfl (l := 18446744073709551616) rfl | exact DP.cvX rfl is26 Tryd.underlying31)) ?_
    refine TR.p 12 rfl (by kernel_rfl) (DP.fa 3 rfl Tryd.underlying34 rfl rfl sz9) ?_
    refine TR.d 13 rfl (by kernel_rfl) (by kernel_rfl) (by (refine Ent.imp ?_; repeat first | exact Imp.refl _ | exact Imp.nil _ | (apply Imp.pull; focus ((repeat first | exact Del.head _ _ | apply Del.tail); done)) | (apply Imp.row; focus ((repeat first | exact Del.head _ _ | apply Del.tail); done)) | apply Imp.drop)) (D.ldR (v := str a.t) rfl pl9 (by (repeat first | exact LMem.head _ _ | apply LMem.tail)) rfl) ?_
    refine TR.p 14 rfl (by kernel_rfl) (DP.fa 4 rfl Tryd.underlying34 rfl rfl sz26) ?_
    refine TR.d 15 rfl (by kernel_rfl) (by kernel_rfl) (by (refine Ent.imp ?_; repeat first | exact Imp.refl _ | exact Imp.nil _ | (apply Imp.pull; focus ((repeat first | exact Del.head _ _ | apply Del.tail); done)) | (apply Imp.row; focus ((repeat first | exact Del.head _ _ | apply Del.tail); done)) | apply Imp.drop)) (D.ldR (v := .int .u32 a.ta) rfl pl26 (by (repeat first | exact LMem.head _ _ | apply LMem.tail)) rfl) ?_
    refine TR.p 16 rfl (by kernel_rfl) ((by first | exact DP.cv rfl is26 Tryd.underlying31 (l := 18446744073709551616) rfl (by omega) | exact DP.cvW rfl is26 Tryd.underlying31 rfl (l := 18446744073709551616) rfl | exact DP.cvX rfl is26 Tryd.underlying31)) ?_
    refine TR.n 5 (by kernel_rfl) rfl (N.callF (number_spec a.op 2 (by omega) (by omega)) Tryd.call39 ⟨rfl, rfl, trivial⟩ (by (repeat first | exact Pick.nil _ | (apply Pick.cons; focus ((repeat first | exact Del.head _ _ | apply Del.tail); done))))) ?_
    rintro u14 _ ⟨_, ⟨rfl, rfl⟩, rfl⟩
    try simp only [List.cons_append, List.nil_append]
    refine ⟨.inr (by (refine Ent.imp ?_; repeat first | exact Imp.refl _ | exact Imp.nil _ | (apply Imp.pull; focus ((repeat first | exact Del.head _ _ | apply Del.tail); done)) | (apply Imp.row; focus ((repeat first | exact Del.head _ _ | apply Del.tail); done)) | apply Imp.drop)), ?_⟩
    refine TR.n 11 (by kernel_rfl) rfl (N.callF (number_spec a.fa 4 (by omega) (by omega)) Tryd.call39 ⟨rfl, rfl, trivial⟩ (by (repeat first | exact Pick.nil _ | (apply Pick.cons; focus ((repeat first | exact Del.head _ _ | apply Del.tail); done))))) ?_
    rintro u20 _ ⟨_, ⟨rfl, rfl⟩, rfl⟩
    try simp only [List.cons_append, List.nil_append]
    refine ⟨.inr (by (refine Ent.imp ?_; repeat first | exact Imp.refl _ | exact Imp.nil _ | (apply Imp.pull; focus ((repeat first | exact Del.head _ _ | apply Del.tail); done)) | (apply Imp.row; focus ((repeat first | exact Del.head _ _ | apply Del.tail); done)) | apply Imp.drop)), ?_⟩
    refine TR.n 17 (by kernel_rfl) rfl (N.callF (number_spec a.ta 4 (by omega) (by omega)) Tryd.call39 ⟨rfl, rfl, trivial⟩ (by (repeat first | exact Pick.nil _ | (apply Pick.cons; focus ((repeat first | exact Del.head _ _ | apply Del.tail); done))))) ?_
    rintro u26 _ ⟨_, ⟨rfl, rfl⟩, rfl⟩
    try simp only [List.cons_append, List.nil_append]
    refine ⟨.inr (by (refine Ent.imp ?_; repeat first | exact Imp.refl _ | exact Imp.nil _ | (apply Imp.pull; focus ((repeat first | exact Del.head _ _ | apply Del.tail); done)) | (apply Imp.row; focus ((repeat first | exact Del.head _ _ | apply Del.tail); done)) | apply Imp.drop)), ?_⟩
    refine TR.n 18 (by kernel_rfl) rfl (N.bsL (len := 6) (vs := [(0, _), (1, _), (2, _), (3, _), (4, _), (5, _)]) (us := [_, _, _, _, _, _]) ⟨rfl, (by conv => lhs; whnf), rfl, (by conv => lhs; whnf), rfl, (by conv => lhs; whnf), rfl, (by conv => lhs; whnf), rfl, (by conv => lhs; whnf), rfl, (by conv => lhs; whnf), trivial⟩ Tryd.underlying89 sz9 zr9 rfl (by omega) rfl) ?_
    rintro _ _ ⟨b27, rfl, rfl⟩
    refine ⟨.inl rfl, ?_⟩
    refine TR.n 19 (by kernel_rfl) rfl (N.callF (join_spec _ [hdE, numE a.op 2, a.f, numE a.fa 4, a.t, numE a.ta 4] (0, 0) (by show 6 ≤ 1000; omega) (by simp [numE_len, hdE]; omega)) Tryd.call38 ⟨rfl, trivial⟩ (by (repeat first | exact Pick.nil _ | (apply Pick.cons; focus ((repeat first | exact Del.head _ _ | apply Del.tail); done))))) ?_
    rintro u28 _ ⟨_, ⟨rfl, rfl⟩, rfl⟩
    try simp only [List.cons_append, List.nil_append]
    refine ⟨.inl rfl, ?_⟩
    refine TR.p 20 rfl (by kernel_rfl) (DP.as (by conv => lhs; whnf)) ?_
    refine TR.p 21 rfl (by kernel_rfl) (DP.as (by conv => lhs; whnf)) ?_
    refine TR.done (by kernel_rfl) ?_
    refine TQ.nn ?_
    refine T.ret ?_
    rw [encA_ok a hm]
    refine TQ.ret (vs := [str _, .int .i64 (0 : Nat)]) (L' := []) rfl ⟨show str _ = str _ by simp [List.append_assoc], rfl, rfl⟩ ⟨rfl, rfl⟩ (by (refine Ent.imp ?_; repeat first | exact Imp.refl _ | exact Imp.nil _ | (apply Imp.pull; focus ((repeat first | exact Del.head _ _ | apply Del.tail); done)) | (apply Imp.row; focus ((repeat first | exact Del.head _ _ | apply Del.tail); done)) | apply Imp.drop))

theorem renca_spec (a : Ar) (ha : a.ok) :
    Sat Tryd.prog 19 [.agg (arV a).toArray] [] (fun u L' => u = .tuple #[str (encA a).1, .int .i64 ((encA a).2 : Nat)] ∧ L' = []) := by
  refine Sat.enter Tryd.func19 rfl Tryd.ntmps19 rfl (fun c R => ?_)
  try simp only [List.cons_append, List.nil_append]
  refine T.seq ?_
  refine T.reg ?_
  refine TO.n (N.bxA (cs := arV a) rfl) ?_
  rintro _ _ ⟨b1, rfl, rfl⟩
  obtain ⟨hop, haf, hfa, hat, hta⟩ := ha
  refine TO.p (DP.as (by conv => lhs; whnf)) ?_
  refine TO.p (DP.as (by conv => lhs; whnf)) ?_
  refine TO.nil ?_
  refine TQ.nn ?_
  refine T.seq ?_
  refine T.seq ?_
  refine T.reg ?_
  refine TO.d (D.ldRA (cs := arV a) rfl ag34 sz34 (by (repeat first | exact LMem.head _ _ | apply LMem.tail)) rfl) ?_
  refine TO.n (N.callF (rmay_spec a) Tryd.call43 ⟨rfl, trivial⟩ (by (repeat first | exact Pick.nil _ | (apply Pick.cons; focus ((repeat first | exact Del.head _ _ | apply Del.tail); done))))) ?_
  rintro u5 _ ⟨_, ⟨rfl, rfl⟩, rfl⟩
  try simp only [List.cons_append, List.nil_append]
  refine TO.p (DP.not rfl) ?_
  refine TO.nil ?_
  refine TQ.nn ?_
  refine T.condB rfl (fun hc0 => ?_) (fun hc0 => ?_)
  · refine T.seq ?_
    refine T.reg ?_
    refine TO.p (DP.as (by conv => lhs; whnf)) ?_
    refine TO.p (DP.as (by conv => lhs; whnf)) ?_
    refine TO.nil ?_
    refine TQ.nn ?_
    refine T.ret ?_
    refine TQ.nr ?_
    rw [encA_bad a (by simpa using hc0)]
    refine TQ.ret (vs := [str [], .int .i64 (2 : Nat)]) (L' := []) rfl ⟨rfl, rfl, rfl⟩ ⟨rfl, rfl⟩ (by (refine Ent.imp ?_; repeat first | exact Imp.refl _ | exact Imp.nil _ | (apply Imp.pull; focus ((repeat first | exact Del.head _ _ | apply Del.tail); done)) | (apply Imp.row; focus ((repeat first | exact Del.head _ _ | apply Del.tail); done)) | apply Imp.drop))
  · have hm : mayE a = true := by simpa using hc0
    obtain ⟨hm1, hm2, hm3⟩ := may_ok hm
    refine T.skip ?_
    refine TQ.nn ?_
    refine T.seq ?_
    refine T.drawL [] mixed (by repeat first | exact Calm.rt | apply Calm.t | apply Calm.b | apply Calm.l | apply Calm.ct) ?_
    refine TR.p 0 rfl (by kernel_rfl) (DP.fa 0 rfl Tryd.underlying34 rfl rfl sz22) ?_
    refine TR.d 1 rfl (by kernel_rfl) (by kernel_rfl) (by (refine Ent.imp ?_; repeat first | exact Imp.refl _ | exact Imp.nil _ | (apply Imp.pull; focus ((repeat first | exact Del.head _ _ | apply Del.tail); done)) | (apply Imp.row; focus ((repeat first | exact Del.head _ _ | apply Del.tail); done)) | apply Imp.drop)) (D.ldR (v := .int .u16 a.op) rfl pl22 (by (repeat first | exact LMem.head _ _ | apply LMem.tail)) rfl) ?_
    refine TR.p 2 rfl (by kernel_rfl) ((by first | exact DP.cv rfl is22 Tryd.underlying31 (l := 18446744073709551616) rfl (by omega) | exact DP.cvW rfl is22 Tryd.underlying31 rfl (l := 18446744073709551616) rfl | exact DP.cvX rfl is22 Tryd.underlying31)) ?_
    refine TR.p 5 rfl (by kernel_rfl) (DP.fa 1 rfl Tryd.underlying34 rfl rfl sz9) ?_
    refine TR.d 6 rfl (by kernel_rfl) (by kernel_rfl) (by (refine Ent.imp ?_; repeat first | exact Imp.refl _ | exact Imp.nil _ | (apply Imp.pull; focus ((repeat first | exact Del.head _ _ | apply Del.tail); done)) | (apply Imp.row; focus ((repeat first | exact Del.head _ _ | apply Del.tail); done)) | apply Imp.drop)) (D.ldR (v := str a.f) rfl pl9 (by (repeat first | exact LMem.head _ _ | apply LMem.tail)) rfl) ?_
    refine TR.p 8 rfl (by kernel_rfl) (DP.fa 2 rfl Tryd.underlying34 rfl rfl sz26) ?_
    refine TR.d 9 rfl (by kernel_rfl) (by kernel_rfl) (by (refine Ent.imp ?_; repeat first | exact Imp.refl _ | exact Imp.nil _ | (apply Imp.pull; focus ((repeat first | exact Del.head _ _ | apply Del.tail); done)) | (apply Imp.row; focus ((repeat first | exact Del.head _ _ | apply Del.tail); done)) | apply Imp.drop)) (D.ldR (v := .int .u32 a.fa) rfl pl26 (by (repeat first | exact LMem.head _ _ | apply LMem.tail)) rfl) ?_
    refine TR.p 10 rfl (by kernel_rfl) ((by first | exact DP.cv rfl is26 Tryd.underlying31 (l := 18446744073709551616) rfl (by omega) | exact DP.cvW rfl is26 Tryd.underlying31 rfl (l := 18446744073709551616) rfl | exact DP.cvX rfl is26 Tryd.underlying31)) ?_
    refine TR.p 13 rfl (by kernel_rfl) (DP.fa 3 rfl Tryd.underlying34 rfl rfl sz9) ?_
    refine TR.d 14 rfl (by kernel_rfl) (by kernel_rfl) (by (refine Ent.imp ?_; repeat first | exact Imp.refl _ | exact Imp.nil _ | (apply Imp.pull; focus ((repeat first | exact Del.head _ _ | apply Del.tail); done)) | (apply Imp.row; focus ((repeat first | exact Del.head _ _ | apply Del.tail); done)) | apply Imp.drop)) (D.ldR (v := str a.t) rfl pl9 (by (repeat first | exact LMem.head _ _ | apply LMem.tail)) rfl) ?_
    refine TR.p 16 rfl (by kernel_rfl) (DP.fa 4 rfl Tryd.underlying34 rfl rfl sz26) ?_
    refine TR.d 17 rfl (by kernel_rfl) (by kernel_rfl) (by (refine Ent.imp ?_; repeat first | exact Imp.refl _ | exact Imp.nil _ | (apply Imp.pull; focus ((repeat first | exact Del.head _ _ | apply Del.tail); done)) | (apply Imp.row; focus ((repeat first | exact Del.head _ _ | apply Del.tail); done)) | apply Imp.drop)) (D.ldR (v := .int .u32 a.ta) rfl pl26 (by (repeat first | exact LMem.head _ _ | apply LMem.tail)) rfl) ?_
    refine TR.p 18 rfl (by kernel_rfl) ((by first | exact DP.cv rfl is26 Tryd.underlying31 (l := 18446744073709551616) rfl (by omega) | exact DP.cvW rfl is26 Tryd.underlying31 rfl (l := 18446744073709551616) rfl | exact DP.cvX rfl is26 Tryd.underlying31)) ?_
    refine TR.n 3 (by kernel_rfl) rfl (N.callF (rnum_spec a.op 2 (by omega) (by omega)) Tryd.call41 ⟨rfl, rfl, trivial⟩ (by (repeat first | exact Pick.nil _ | (apply Pick.cons; focus ((repeat first | exact Del.head _ _ | apply Del.tail); done))))) ?_
    rintro u10 _ ⟨_, ⟨rfl, rfl⟩, rfl⟩
    try simp only [List.cons_append, List.nil_append]
    refine ⟨.inr (by (refine Ent.imp ?_; repeat first | exact Imp.refl _ | exact Imp.nil _ | (apply Imp.pull; focus ((repeat first | exact Del.head _ _ | apply Del.tail); done)) | (apply Imp.row; focus ((repeat first | exact Del.head _ _ | apply Del.tail); done)) | apply Imp.drop)), ?_⟩
    refine TR.p 4 rfl (by kernel_rfl) (DP.cat (l := hdE) (m := numE a.op 2) rfl rfl (by (try simp only [List.length_append, List.length_replicate, numE_len, show hdE.length = 6 from rfl]); omega)) ?_
    refine TR.p 7 rfl (by kernel_rfl) (DP.cat (l := hdE ++ numE a.op 2) (m := a.f) rfl rfl (by (try simp only [List.length_append, List.length_replicate, numE_len, show hdE.length = 6 from rfl]); omega)) ?_
    refine TR.n 11 (by kernel_rfl) rfl (N.callF (rnum_spec a.fa 4 (by omega) (by omega)) Tryd.call41 ⟨rfl, rfl, trivial⟩ (by (repeat first | exact Pick.nil _ | (apply Pick.cons; focus ((repeat first | exact Del.head _ _ | apply Del.tail); done))))) ?_
    rintro u18 _ ⟨_, ⟨rfl, rfl⟩, rfl⟩
    try simp only [List.cons_append, List.nil_append]
    refine ⟨.inr (by (refine Ent.imp ?_; repeat first | exact Imp.refl _ | exact Imp.nil _ | (apply Imp.pull; focus ((repeat first | exact Del.head _ _ | apply Del.tail); done)) | (apply Imp.row; focus ((repeat first | exact Del.head _ _ | apply Del.tail); done)) | apply Imp.drop)), ?_⟩
    refine TR.p 12 rfl (by kernel_rfl) (DP.cat (l := hdE ++ numE a.op 2 ++ a.f) (m := numE a.fa 4) rfl rfl (by (try simp only [List.length_append, List.length_replicate, numE_len, show hdE.length = 6 from rfl]); omega)) ?_
    refine TR.p 15 rfl (by kernel_rfl) (DP.cat (l := hdE ++ numE a.op 2 ++ a.f ++ numE a.fa 4) (m := a.t) rfl rfl (by (try simp only [List.length_append, List.length_replicate, numE_len, show hdE.length = 6 from rfl]); omega)) ?_
    refine TR.n 19 (by kernel_rfl) rfl (N.callF (rnum_spec a.ta 4 (by omega) (by omega)) Tryd.call41 ⟨rfl, rfl, trivial⟩ (by (repeat first | exact Pick.nil _ | (apply Pick.cons; focus ((repeat first | exact Del.head _ _ | apply Del.tail); done))))) ?_
    rintro u26 _ ⟨_, ⟨rfl, rfl⟩, rfl⟩
    try simp only [List.cons_append, List.nil_append]
    refine ⟨.inr (by (refine Ent.imp ?_; repeat first | exact Imp.refl _ | exact Imp.nil _ | (apply Imp.pull; focus ((repeat first | exact Del.head _ _ | apply Del.tail); done)) | (apply Imp.row; focus ((repeat first | exact Del.head _ _ | apply Del.tail); done)) | apply Imp.drop)), ?_⟩
    refine TR.p 20 rfl (by kernel_rfl) (DP.cat (l := hdE ++ numE a.op 2 ++ a.f ++ numE a.fa 4 ++ a.t) (m := numE a.ta 4) rfl rfl (by (try simp only [List.length_append, List.length_replicate, numE_len, show hdE.length = 6 from rfl]); omega)) ?_
    refine TR.p 21 rfl (by kernel_rfl) (DP.as (by conv => lhs; whnf)) ?_
    refine TR.p 22 rfl (by kernel_rfl) (DP.as (by conv => lhs; whnf)) ?_
    refine TR.done (by kernel_rfl) ?_
    refine TQ.nn ?_
    refine T.ret ?_
    rw [encA_ok a hm]
    refine TQ.ret (vs := [str _, .int .i64 (0 : Nat)]) (L' := []) rfl ⟨show str _ = str _ by simp [List.append_assoc], rfl, rfl⟩ ⟨rfl, rfl⟩ (by (refine Ent.imp ?_; repeat first | exact Imp.refl _ | exact Imp.nil _ | (apply Imp.pull; focus ((repeat first | exact Del.head _ _ | apply Del.tail); done)) | (apply Imp.row; focus ((repeat first | exact Del.head _ _ | apply Del.tail); done)) | apply Imp.drop))

theorem alone_spec (m : List UInt8) (hm : m.length ≤ 1048576) :
    Sat Tryd.prog 24 [str m] [] (fun u L' => u = .bool (aloneE m) ∧ L' = []) := by
  refine Sat.enter Tryd.func24 rfl Tryd.ntmps24 rfl (fun c R => ?_)
  try simp only [List.cons_append, List.nil_append]
  refine T.seq ?_
  refine T.reg ?_
  refine TO.p (DP.as (by conv => lhs; whnf)) ?_
  refine TO.nil ?_
  refine TQ.nn ?_
  refine T.seq ?_
  refine T.reg ?_
  refine TO.p (DP.mv (by conv => lhs; whnf)) ?_
  refine TO.p (DP.lenT rfl Tryd.underlying9) ?_
  refine TO.p ((by first | exact DP.eql (b := 6) rfl rfl | exact DP.eqlI rfl rfl)) ?_
  refine TO.pB (DP.mv (by conv => lhs; whnf)) (fun hg6 => ?_) (fun hg6 => ?_)
  · obtain ⟨c0, m2, rfl⟩ : ∃ c0 m2, m = c0 :: m2 := by cases m with | nil => simp at hg6 | cons c0 m2 => exact ⟨c0, m2, rfl⟩
    have hc0 := c0.toNat_lt
    have h6 := hg6
    refine TO.onP rfl (DP.mv (by conv => lhs; whnf)) ?_
    refine TO.onP rfl (DP.ixT (i := 0) (b := c0) rfl rfl Tryd.underlying9 rfl) ?_
    refine TO.onP rfl (DP.band (a := c0.toNat) (b := 1) rfl rfl (l := 256) rfl (by omega) (by omega)) ?_
    refine TO.onP rfl (DP.eql (b := 0) rfl rfl) ?_
    refine TO.p (DP.pkT rfl (by conv => lhs; whnf)) ?_
    refine TO.pB (DP.mv (by conv => lhs; whnf)) (fun hg12 => ?_) (fun hg12 => ?_)
    · refine TO.onP rfl (DP.mv (by conv => lhs; whnf)) ?_
      refine TO.on rfl (N.callF (trim_spec (c0 :: m2) (by omega)) Tryd.call46 ⟨rfl, rfl, trivial⟩ (by (repeat first | exact Pick.nil _ | (apply Pick.cons; focus ((repeat first | exact Del.head _ _ | apply Del.tail); done))))) ?_
      rintro u14 _ ⟨_, ⟨rfl, rfl⟩, rfl⟩
      try simp only [List.cons_append, List.nil_append]
      refine TO.onP rfl (DP.tneq (m := []) rfl rfl) ?_
      refine TO.p (DP.pkT rfl (by conv => lhs; whnf)) ?_
      refine TO.p (DP.as (by conv => lhs; whnf)) ?_
      refine TO.nil ?_
      refine TQ.nn ?_
      refine T.ret ?_
      refine TQ.ret (vs := [.bool (aloneE (c0 :: m2))]) (L' := []) rfl ⟨show Value.bool _ = Value.bool _ by exact congrArg Value.bool (alone_tr hg6 hg12), rfl⟩ ⟨rfl, rfl⟩ (by (refine Ent.imp ?_; repeat first | exact Imp.refl _ | exact Imp.nil _ | (apply Imp.pull; focus ((repeat first | exact Del.head _ _ | apply Del.tail); done)) | (apply Imp.row; focus ((repeat first | exact Del.head _ _ | apply Del.tail); done)) | apply Imp.drop))
    · refine TO.off rfl rfl ?_
      refine TO.off rfl rfl ?_
      refine TO.off rfl rfl ?_
      refine TO.p (DP.pkF rfl (by conv => lhs; whnf)) ?_
      refine TO.p (DP.as (by conv => lhs; whnf)) ?_
      refine TO.nil ?_
      refine TQ.nn ?_
      refine T.ret ?_
      refine TQ.ret (vs := [.bool (aloneE (c0 :: m2))]) (L' := []) rfl ⟨show Value.bool _ = Value.bool _ by simp only [aloneE, List.headD_cons, hg6, hg12, decide_true, decide_false, Bool.true_and, Bool.false_and], rfl⟩ ⟨rfl, rfl⟩ (by (refine Ent.imp ?_; repeat first | exact Imp.refl _ | exact Imp.nil _ | (apply Imp.pull; focus ((repeat first | exact Del.head _ _ | apply Del.tail); done)) | (apply Imp.row; focus ((repeat first | exact Del.head _ _ | apply Del.tail); done)) | apply Imp.drop))
  · refine TO.off rfl rfl ?_
    refine TO.off rfl rfl ?_
    refine TO.off rfl rfl ?_
    refine TO.off rfl rfl ?_
    refine TO.p (DP.pkF rfl (by conv => lhs; whnf)) ?_
    refine TO.p (DP.mv (by conv => lhs; whnf)) ?_
    refine TO.off rfl rfl ?_
    refine TO.off rfl rfl ?_
    refine TO.off rfl rfl ?_
    refine TO.p (DP.pkF rfl (by conv => lhs; whnf)) ?_
    refine TO.p (DP.as (by conv => lhs; whnf)) ?_
    refine TO.nil ?_
    refine TQ.nn ?_
    refine T.ret ?_
    refine TQ.ret (vs := [.bool (aloneE m)]) (L' := []) rfl ⟨show Value.bool _ = Value.bool _ by simp [aloneE, *], rfl⟩ ⟨rfl, rfl⟩ (by (refine Ent.imp ?_; repeat first | exact Imp.refl _ | exact Imp.nil _ | (apply Imp.pull; focus ((repeat first | exact Del.head _ _ | apply Del.tail); done)) | (apply Imp.row; focus ((repeat first | exact Del.head _ _ | apply Del.tail); done)) | apply Imp.drop))

theorem ralone_spec (m : List UInt8) (hm : m.length ≤ 1048576) :
    Sat Tryd.prog 15 [str m] [] (fun u L' => u = .bool (aloneE m) ∧ L' = []) := by
  refine Sat.enter Tryd.func15 rfl Tryd.ntmps15 rfl (fun c R => ?_)
  try simp only [List.cons_append, List.nil_append]
  refine T.seq ?_
  refine T.reg ?_
  refine TO.p (DP.as (by conv => lhs; whnf)) ?_
  refine TO.nil ?_
  refine TQ.nn ?_
  refine T.seq ?_
  refine T.reg ?_
  refine TO.p (DP.mv (by conv => lhs; whnf)) ?_
  refine TO.p (DP.lenT rfl Tryd.underlying9) ?_
  refine TO.p ((by first | exact DP.eql (b := 6) rfl rfl | exact DP.eqlI rfl rfl)) ?_
  refine TO.pB (DP.mv (by conv => lhs; whnf)) (fun hg6 => ?_) (fun hg6 => ?_)
  · obtain ⟨c0, m2, rfl⟩ : ∃ c0 m2, m = c0 :: m2 := by cases m with | nil => simp at hg6 | cons c0 m2 => exact ⟨c0, m2, rfl⟩
    have hc0 := c0.toNat_lt
    have h6 := hg6
    refine TO.onP rfl (DP.mv (by conv => lhs; whnf)) ?_
    refine TO.onP rfl (DP.ixT (i := 0) (b := c0) rfl rfl Tryd.underlying9 rfl) ?_
    refine TO.onP rfl (DP.band (a := c0.toNat) (b := 1) rfl rfl (l := 256) rfl (by omega) (by omega)) ?_
    refine TO.onP rfl (DP.eql (b := 0) rfl rfl) ?_
    refine TO.p (DP.pkT rfl (by conv => lhs; whnf)) ?_
    refine TO.pB (DP.mv (by conv => lhs; whnf)) (fun hg12 => ?_) (fun hg12 => ?_)
    · refine TO.onP rfl (DP.mv (by conv => lhs; whnf)) ?_
      refine TO.on rfl (N.mk (n := 6) rfl rfl Tryd.underlying60 sz5 by5 zr5 rfl rfl (by omega)) ?_
      rintro _ _ ⟨b14, rfl, rfl⟩
      refine TO.onD rfl (D.cbs (l := List.replicate 6 0) (A := row 5 b14 (List.replicate 6 [Value.int .u8 0]).flatten) rfl Tryd.underlying60 Tryd.underlying9 Tryd.underlying5 (by simp) (by (repeat first | exact LMem.head _ _ | apply LMem.tail)) (ReadsN.row (fun j v hv => by rw [Nat.zero_add, ← hv]; rfl))) ?_
      refine TO.onP rfl (DP.tneq rfl rfl) ?_
      refine TO.p (DP.pkT rfl (by conv => lhs; whnf)) ?_
      refine TO.p (DP.as (by conv => lhs; whnf)) ?_
      refine TO.nil ?_
      refine TQ.nn ?_
      refine T.ret ?_
      refine TQ.ret (vs := [.bool (aloneE (c0 :: m2))]) (L' := []) rfl ⟨show Value.bool _ = Value.bool _ by rw [alone_at hg6 hg12], rfl⟩ ⟨rfl, rfl⟩ (by (refine Ent.imp ?_; repeat first | exact Imp.refl _ | exact Imp.nil _ | (apply Imp.pull; focus ((repeat first | exact Del.head _ _ | apply Del.tail); done)) | (apply Imp.row; focus ((repeat first | exact Del.head _ _ | apply Del.tail); done)) | apply Imp.drop))
    · refine TO.off rfl rfl ?_
      refine TO.off rfl rfl ?_
      refine TO.off rfl rfl ?_
      refine TO.off rfl rfl ?_
      refine TO.p (DP.pkF rfl (by conv => lhs; whnf)) ?_
      refine TO.p (DP.as (by conv => lhs; whnf)) ?_
      refine TO.nil ?_
      refine TQ.nn ?_
      refine T.ret ?_
      refine TQ.ret (vs := [.bool (aloneE (c0 :: m2))]) (L' := []) rfl ⟨show Value.bool _ = Value.bool _ by simp only [aloneE, List.headD_cons, hg6, hg12, decide_true, decide_false, Bool.true_and, Bool.false_and], rfl⟩ ⟨rfl, rfl⟩ (by (refine Ent.imp ?_; repeat first | exact Imp.refl _ | exact Imp.nil _ | (apply Imp.pull; focus ((repeat first | exact Del.head _ _ | apply Del.tail); done)) | (apply Imp.row; focus ((repeat first | exact Del.head _ _ | apply Del.tail); done)) | apply Imp.drop))
  · refine TO.off rfl rfl ?_
    refine TO.off rfl rfl ?_
    refine TO.off rfl rfl ?_
    refine TO.off rfl rfl ?_
    refine TO.p (DP.pkF rfl (by conv => lhs; whnf)) ?_
    refine TO.p (DP.mv (by conv => lhs; whnf)) ?_
    refine TO.off rfl rfl ?_
    refine TO.off rfl rfl ?_
    refine TO.off rfl rfl ?_
    refine TO.off rfl rfl ?_
    refine TO.p (DP.pkF rfl (by conv => lhs; whnf)) ?_
    refine TO.p (DP.as (by conv => lhs; whnf)) ?_
    refine TO.nil ?_
    refine TQ.nn ?_
    refine T.ret ?_
    refine TQ.ret (vs := [.bool (aloneE m)]) (L' := []) rfl ⟨show Value.bool _ = Value.bool _ by simp [aloneE, *], rfl⟩ ⟨rfl, rfl⟩ (by (refine Ent.imp ?_; repeat first | exact Imp.refl _ | exact Imp.nil _ | (apply Imp.pull; focus ((repeat first | exact Del.head _ _ | apply Del.tail); done)) | (apply Imp.row; focus ((repeat first | exact Del.head _ _ | apply Del.tail); done)) | apply Imp.drop))

theorem aloneA_spec (a : Nat) (ha : a < 4294967296) :
    Sat Tryd.prog 25 [.int .u32 a] [] (fun u L' => u = .bool (aloneA a) ∧ L' = []) := by
  refine Sat.enter Tryd.func25 rfl Tryd.ntmps25 rfl (fun c R => ?_)
  try simp only [List.cons_append, List.nil_append]
  refine T.seq ?_
  refine T.reg ?_
  refine TO.p (DP.as (by conv => lhs; whnf)) ?_
  refine TO.nil ?_
  refine TQ.nn ?_
  refine T.seq ?_
  refine T.reg ?_
  refine TO.p (DP.mv (by conv => lhs; whnf)) ?_
  refine TO.p (DP.shr (b := 24) rfl rfl (l := 4294967296) rfl (by omega)) ?_
  refine TO.p (DP.as (by conv => lhs; whnf)) ?_
  refine TO.nil ?_
  refine TQ.nn ?_
  refine T.seq ?_
  refine T.reg ?_
  refine TO.p (DP.mv (by conv => lhs; whnf)) ?_
  refine TO.p ((by first | exact DP.geq (b := 1) rfl rfl | exact DP.geqI rfl rfl)) ?_
  refine TO.pB (DP.mv (by conv => lhs; whnf)) (fun hg8 => ?_) (fun hg8 => ?_)
  · refine TO.onP rfl (DP.mv (by conv => lhs; whnf)) ?_
    refine TO.onP rfl ((by first | exact DP.lss (b := 224) rfl rfl | exact DP.lssI rfl rfl)) ?_
    refine TO.p (DP.pkT rfl (by conv => lhs; whnf)) ?_
    refine TO.pB (DP.mv (by conv => lhs; whnf)) (fun hg12 => ?_) (fun hg12 => ?_)
    · refine TO.onP rfl (DP.mv (by conv => lhs; whnf)) ?_
      refine TO.onP rfl ((by first | exact DP.neq (b := 127) rfl rfl | exact DP.neqI rfl rfl)) ?_
      refine TO.p (DP.pkT rfl (by conv => lhs; whnf)) ?_
      refine TO.p (DP.as (by conv => lhs; whnf)) ?_
      refine TO.nil ?_
      refine TQ.nn ?_
      refine T.ret ?_
      refine TQ.ret (vs := [.bool (aloneA a)]) (L' := []) rfl ⟨show Value.bool _ = Value.bool _ by (simp [aloneA, *] <;> omega), rfl⟩ ⟨rfl, rfl⟩ (by (refine Ent.imp ?_; repeat first | exact Imp.refl _ | exact Imp.nil _ | (apply Imp.pull; focus ((repeat first | exact Del.head _ _ | apply Del.tail); done)) | (apply Imp.row; focus ((repeat first | exact Del.head _ _ | apply Del.tail); done)) | apply Imp.drop))
    · refine TO.off rfl rfl ?_
      refine TO.off rfl rfl ?_
      refine TO.p (DP.pkF rfl (by conv => lhs; whnf)) ?_
      refine TO.p (DP.as (by conv => lhs; whnf)) ?_
      refine TO.nil ?_
      refine TQ.nn ?_
      refine T.ret ?_
      refine TQ.ret (vs := [.bool (aloneA a)]) (L' := []) rfl ⟨show Value.bool _ = Value.bool _ by (simp [aloneA, *] <;> omega), rfl⟩ ⟨rfl, rfl⟩ (by (refine Ent.imp ?_; repeat first | exact Imp.refl _ | exact Imp.nil _ | (apply Imp.pull; focus ((repeat first | exact Del.head _ _ | apply Del.tail); done)) | (apply Imp.row; focus ((repeat first | exact Del.head _ _ | apply Del.tail); done)) | apply Imp.drop))
  · refine TO.off rfl rfl ?_
    refine TO.off rfl rfl ?_
    refine TO.p (DP.pkF rfl (by conv => lhs; whnf)) ?_
    refine TO.p (DP.mv (by conv => lhs; whnf)) ?_
    refine TO.off rfl rfl ?_
    refine TO.off rfl rfl ?_
    refine TO.p (DP.pkF rfl (by conv => lhs; whnf)) ?_
    refine TO.p (DP.as (by conv => lhs; whnf)) ?_
    refine TO.nil ?_
    refine TQ.nn ?_
    refine T.ret ?_
    refine TQ.ret (vs := [.bool (aloneA a)]) (L' := []) rfl ⟨show Value.bool _ = Value.bool _ by (simp [aloneA, *] <;> omega), rfl⟩ ⟨rfl, rfl⟩ (by (refine Ent.imp ?_; repeat first | exact Imp.refl _ | exact Imp.nil _ | (apply Imp.pull; focus ((repeat first | exact Del.head _ _ | apply Del.tail); done)) | (apply Imp.row; focus ((repeat first | exact Del.head _ _ | apply Del.tail); done)) | apply Imp.drop))

theorem raloneA_spec (a : Nat) (ha : a < 4294967296) :
    Sat Tryd.prog 26 [.int .u32 a] [] (fun u L' => u = .bool (aloneA a) ∧ L' = []) := by
  refine Sat.enter Tryd.func26 rfl Tryd.ntmps26 rfl (fun c R => ?_)
  try simp only [List.cons_append, List.nil_append]
  refine T.seq ?_
  refine T.reg ?_
  refine TO.p (DP.as (by conv => lhs; whnf)) ?_
  refine TO.nil ?_
  refine TQ.nn ?_
  refine T.seq ?_
  refine T.reg ?_
  refine TO.p (DP.mv (by conv => lhs; whnf)) ?_
  refine TO.p (DP.shr (b := 24) rfl rfl (l := 4294967296) rfl (by omega)) ?_
  refine TO.p (DP.as (by conv => lhs; whnf)) ?_
  refine TO.nil ?_
  refine TQ.nn ?_
  refine T.seq ?_
  refine T.reg ?_
  refine TO.p (DP.mv (by conv => lhs; whnf)) ?_
  refine TO.p ((by first | exact DP.geq (b := 1) rfl rfl | exact DP.geqI rfl rfl)) ?_
  refine TO.pB (DP.mv (by conv => lhs; whnf)) (fun hg8 => ?_) (fun hg8 => ?_)
  · refine TO.onP rfl (DP.mv (by conv => lhs; whnf)) ?_
    refine TO.onP rfl ((by first | exact DP.leq (b := 223) rfl rfl | exact DP.leqI rfl rfl)) ?_
    refine TO.p (DP.pkT rfl (by conv => lhs; whnf)) ?_
    refine TO.pB (DP.mv (by conv => lhs; whnf)) (fun hg12 => ?_) (fun hg12 => ?_)
    · refine TO.onP rfl (DP.mv (by conv => lhs; whnf)) ?_
      refine TO.onP rfl ((by first | exact DP.neq (b := 127) rfl rfl | exact DP.neqI rfl rfl)) ?_
      refine TO.p (DP.pkT rfl (by conv => lhs; whnf)) ?_
      refine TO.p (DP.as (by conv => lhs; whnf)) ?_
      refine TO.nil ?_
      refine TQ.nn ?_
      refine T.ret ?_
      refine TQ.ret (vs := [.bool (aloneA a)]) (L' := []) rfl ⟨show Value.bool _ = Value.bool _ by (simp [aloneA, *] <;> omega), rfl⟩ ⟨rfl, rfl⟩ (by (refine Ent.imp ?_; repeat first | exact Imp.refl _ | exact Imp.nil _ | (apply Imp.pull; focus ((repeat first | exact Del.head _ _ | apply Del.tail); done)) | (apply Imp.row; focus ((repeat first | exact Del.head _ _ | apply Del.tail); done)) | apply Imp.drop))
    · refine TO.off rfl rfl ?_
      refine TO.off rfl rfl ?_
      refine TO.p (DP.pkF rfl (by conv => lhs; whnf)) ?_
      refine TO.p (DP.as (by conv => lhs; whnf)) ?_
      refine TO.nil ?_
      refine TQ.nn ?_
      refine T.ret ?_
      refine TQ.ret (vs := [.bool (aloneA a)]) (L' := []) rfl ⟨show Value.bool _ = Value.bool _ by (simp [aloneA, *] <;> omega), rfl⟩ ⟨rfl, rfl⟩ (by (refine Ent.imp ?_; repeat first | exact Imp.refl _ | exact Imp.nil _ | (apply Imp.pull; focus ((repeat first | exact Del.head _ _ | apply Del.tail); done)) | (apply Imp.row; focus ((repeat first | exact Del.head _ _ | apply Del.tail); done)) | apply Imp.drop))
  · refine TO.off rfl rfl ?_
    refine TO.off rfl rfl ?_
    refine TO.p (DP.pkF rfl (by conv => lhs; whnf)) ?_
    refine TO.p (DP.mv (by conv => lhs; whnf)) ?_
    refine TO.off rfl rfl ?_
    refine TO.off rfl rfl ?_
    refine TO.p (DP.pkF rfl (by conv => lhs; whnf)) ?_
    refine TO.p (DP.as (by conv => lhs; whnf)) ?_
    refine TO.nil ?_
    refine TQ.nn ?_
    refine T.ret ?_
    refine TQ.ret (vs := [.bool (aloneA a)]) (L' := []) rfl ⟨show Value.bool _ = Value.bool _ by (simp [aloneA, *] <;> omega), rfl⟩ ⟨rfl, rfl⟩ (by (refine Ent.imp ?_; repeat first | exact Imp.refl _ | exact Imp.nil _ | (apply Imp.pull; focus ((repeat first | exact Del.head _ _ | apply Del.tail); done)) | (apply Imp.row; focus ((repeat first | exact Del.head _ _ | apply Del.tail); done)) | apply Imp.drop))
end Go.Proofs.YtbandaebilkkkaaDoor
