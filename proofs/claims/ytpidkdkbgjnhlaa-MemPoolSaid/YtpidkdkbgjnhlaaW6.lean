/- Lemmas for the proofs of this seat: no statement of the seat is claimed here. -/
import Derived.Test.YtpidkdkbgjnhlaaW5
set_option linter.all false
namespace Go.Proofs.Ytpidkdkbgjnhlaa
open Go Pw
set_option maxRecDepth 20000
set_option maxHeartbeats 4000000
theorem lend_out (p b a l : Nat) (v : Value) (bs : List UInt8) (ss : List Spn) (hbs : bs.length ≤ 1048576) (hlen : ss.length ≤ 1048576) (hb : ∀ s ∈ ss, s.1 + s.2 ≤ 1048576) (ha : a < 4294967296) (hl : l < 4294967296) (h : l = 0 ∨ bs.length < a + l) :
    Sat Try.prog 14 [.pointer (some ⟨p, 0, none⟩), .agg #[.int .u32 a, .int .u32 l]] [row 78 p [.slice (some ⟨b, 0, none⟩) bs.length bs.length, v], row 5 b (bs.map byteV), sl 42 2 v ss.length (spans ss)] (fun u L' => u = .int .i64 10 ∧ L' = [row 78 p [.slice (some ⟨b, 0, none⟩) bs.length bs.length, v], row 5 b (bs.map byteV), sl 42 2 v ss.length (spans ss)]) := by
  refine Sat.enter Try.func14 rfl Try.ntmps14 rfl (fun c R => ?_)
  try simp only [List.cons_append, List.nil_append]
  refine T.seq ?_
  refine T.reg ?_
  refine TO.n (N.bxA rfl) ?_
  rintro _ _ ⟨b3, rfl, rfl⟩
  refine TO.p (DP.as (by conv => lhs; whnf)) ?_
  refine TO.nil ?_
  refine TQ.nn ?_
  refine T.seq ?_
  refine T.seq ?_
  refine T.reg ?_
  refine TO.p (DP.mv (by conv => lhs; whnf)) ?_
  refine TO.d (D.ldRA rfl ag42 sz42 (by (repeat first | exact LMem.head _ _ | apply LMem.tail)) (by rfl)) ?_
  refine TO.n (N.callF (span_out p bs.length b a l v hbs ha hl h) Try.call42 ⟨rfl, rfl, trivial⟩ (by (repeat first | exact Pick.nil _ | (apply Pick.cons; focus ((repeat first | exact Del.head _ _ | apply Del.tail); done))))) ?_
  rintro u10 _ ⟨_, ⟨rfl, rfl⟩, rfl⟩
  try simp only [List.cons_append, List.nil_append]
  refine TO.p (DP.as (by conv => lhs; whnf)) ?_
  refine TO.nil ?_
  refine TQ.nn ?_
  refine T.seq ?_
  refine T.reg ?_
  refine TO.p (DP.mv (by conv => lhs; whnf)) ?_
  refine TO.p (DP.neq (a := 10) (b := 0) rfl rfl) ?_
  refine TO.nil ?_
  refine TQ.nn ?_
  refine T.condD rfl (fun hc0 => ?_) (fun hc0 => ?_)
  · refine T.seq ?_
    refine T.reg ?_
    refine TO.p (DP.mv (by conv => lhs; whnf)) ?_
    refine TO.p (DP.as (by conv => lhs; whnf)) ?_
    refine TO.nil ?_
    refine TQ.nn ?_
    refine T.ret ?_
    refine TQ.nr ?_
    refine TQ.ret (vs := [.int .i64 10]) (L' := [_, _, _]) rfl ⟨rfl, rfl⟩ ⟨rfl, rfl⟩ (by (refine Ent.imp ?_; repeat first | exact Imp.refl _ | exact Imp.nil _ | (apply Imp.pull; focus ((repeat first | exact Del.head _ _ | apply Del.tail); done)) | (apply Imp.row; focus ((repeat first | exact Del.head _ _ | apply Del.tail); done)) | apply Imp.drop))
  · exact absurd (by decide) hc0

theorem lend_nil (a l : Nat) :
    Sat Try.prog 14 [.pointer none, .agg #[.int .u32 a, .int .u32 l]] [] (fun u L' => u = .int .i64 1 ∧ L' = []) := by
  refine Sat.enter Try.func14 rfl Try.ntmps14 rfl (fun c R => ?_)
  try simp only [List.cons_append, List.nil_append]
  refine T.seq ?_
  refine T.reg ?_
  refine TO.n (N.bxA rfl) ?_
  rintro _ _ ⟨b3, rfl, rfl⟩
  refine TO.p (DP.as (by conv => lhs; whnf)) ?_
  refine TO.nil ?_
  refine TQ.nn ?_
  refine T.seq ?_
  refine T.seq ?_
  refine T.reg ?_
  refine TO.p (DP.mv (by conv => lhs; whnf)) ?_
  refine TO.d (D.ldRA rfl ag42 sz42 (by (repeat first | exact LMem.head _ _ | apply LMem.tail)) (by rfl)) ?_
  refine TO.n (N.callF (span_nil a l) Try.call42 ⟨rfl, rfl, trivial⟩ (by (repeat first | exact Pick.nil _ | (apply Pick.cons; focus ((repeat first | exact Del.head _ _ | apply Del.tail); done))))) ?_
  rintro u10 _ ⟨_, ⟨rfl, rfl⟩, rfl⟩
  try simp only [List.cons_append, List.nil_append]
  refine TO.p (DP.as (by conv => lhs; whnf)) ?_
  refine TO.nil ?_
  refine TQ.nn ?_
  refine T.seq ?_
  refine T.reg ?_
  refine TO.p (DP.mv (by conv => lhs; whnf)) ?_
  refine TO.p (DP.neq (a := 1) (b := 0) rfl rfl) ?_
  refine TO.nil ?_
  refine TQ.nn ?_
  refine T.condD rfl (fun hc0 => ?_) (fun hc0 => ?_)
  · refine T.seq ?_
    refine T.reg ?_
    refine TO.p (DP.mv (by conv => lhs; whnf)) ?_
    refine TO.p (DP.as (by conv => lhs; whnf)) ?_
    refine TO.nil ?_
    refine TQ.nn ?_
    refine T.ret ?_
    refine TQ.nr ?_
    refine TQ.ret (vs := [.int .i64 1]) (L' := []) rfl ⟨rfl, rfl⟩ ⟨rfl, rfl⟩ (by (refine Ent.imp ?_; repeat first | exact Imp.refl _ | exact Imp.nil _ | (apply Imp.pull; focus ((repeat first | exact Del.head _ _ | apply Del.tail); done)) | (apply Imp.row; focus ((repeat first | exact Del.head _ _ | apply Del.tail); done)) | apply Imp.drop))
  · exact absurd (by decide) hc0

theorem back_out (p b a l : Nat) (v : Value) (bs : List UInt8) (ss : List Spn) (hbs : bs.length ≤ 1048576) (hlen : ss.length ≤ 1048576) (hb : ∀ s ∈ ss, s.1 + s.2 ≤ 1048576) (ha : a < 4294967296) (hl : l < 4294967296) (h : l = 0 ∨ bs.length < a + l) :
    Sat Try.prog 15 [.pointer (some ⟨p, 0, none⟩), .agg #[.int .u32 a, .int .u32 l]] [row 78 p [.slice (some ⟨b, 0, none⟩) bs.length bs.length, v], row 5 b (bs.map byteV), sl 42 2 v ss.length (spans ss)] (fun u L' => u = .int .i64 10 ∧ L' = [row 78 p [.slice (some ⟨b, 0, none⟩) bs.length bs.length, v], row 5 b (bs.map byteV), sl 42 2 v ss.length (spans ss)]) := by
  refine Sat.enter Try.func15 rfl Try.ntmps15 rfl (fun c R => ?_)
  try simp only [List.cons_append, List.nil_append]
  refine T.seq ?_
  refine T.reg ?_
  refine TO.n (N.bxA rfl) ?_
  rintro _ _ ⟨b3, rfl, rfl⟩
  refine TO.p (DP.as (by conv => lhs; whnf)) ?_
  refine TO.nil ?_
  refine TQ.nn ?_
  refine T.seq ?_
  refine T.seq ?_
  refine T.reg ?_
  refine TO.p (DP.mv (by conv => lhs; whnf)) ?_
  refine TO.d (D.ldRA rfl ag42 sz42 (by (repeat first | exact LMem.head _ _ | apply LMem.tail)) (by rfl)) ?_
  refine TO.n (N.callF (span_out p bs.length b a l v hbs ha hl h) Try.call42 ⟨rfl, rfl, trivial⟩ (by (repeat first | exact Pick.nil _ | (apply Pick.cons; focus ((repeat first | exact Del.head _ _ | apply Del.tail); done))))) ?_
  rintro u11 _ ⟨_, ⟨rfl, rfl⟩, rfl⟩
  try simp only [List.cons_append, List.nil_append]
  refine TO.p (DP.as (by conv => lhs; whnf)) ?_
  refine TO.nil ?_
  refine TQ.nn ?_
  refine T.seq ?_
  refine T.reg ?_
  refine TO.p (DP.mv (by conv => lhs; whnf)) ?_
  refine TO.p (DP.neq (a := 10) (b := 0) rfl rfl) ?_
  refine TO.nil ?_
  refine TQ.nn ?_
  refine T.condD rfl (fun hc0 => ?_) (fun hc0 => ?_)
  · refine T.seq ?_
    refine T.reg ?_
    refine TO.p (DP.mv (by conv => lhs; whnf)) ?_
    refine TO.p (DP.as (by conv => lhs; whnf)) ?_
    refine TO.nil ?_
    refine TQ.nn ?_
    refine T.ret ?_
    refine TQ.nr ?_
    refine TQ.ret (vs := [.int .i64 10]) (L' := [_, _, _]) rfl ⟨rfl, rfl⟩ ⟨rfl, rfl⟩ (by (refine Ent.imp ?_; repeat first | exact Imp.refl _ | exact Imp.nil _ | (apply Imp.pull; focus ((repeat first | exact Del.head _ _ | apply Del.tail); done)) | (apply Imp.row; focus ((repeat first | exact Del.head _ _ | apply Del.tail); done)) | apply Imp.drop))
  · exact absurd (by decide) hc0

theorem back_nil (a l : Nat) :
    Sat Try.prog 15 [.pointer none, .agg #[.int .u32 a, .int .u32 l]] [] (fun u L' => u = .int .i64 1 ∧ L' = []) := by
  refine Sat.enter Try.func15 rfl Try.ntmps15 rfl (fun c R => ?_)
  try simp only [List.cons_append, List.nil_append]
  refine T.seq ?_
  refine T.reg ?_
  refine TO.n (N.bxA rfl) ?_
  rintro _ _ ⟨b3, rfl, rfl⟩
  refine TO.p (DP.as (by conv => lhs; whnf)) ?_
  refine TO.nil ?_
  refine TQ.nn ?_
  refine T.seq ?_
  refine T.seq ?_
  refine T.reg ?_
  refine TO.p (DP.mv (by conv => lhs; whnf)) ?_
  refine TO.d (D.ldRA rfl ag42 sz42 (by (repeat first | exact LMem.head _ _ | apply LMem.tail)) (by rfl)) ?_
  refine TO.n (N.callF (span_nil a l) Try.call42 ⟨rfl, rfl, trivial⟩ (by (repeat first | exact Pick.nil _ | (apply Pick.cons; focus ((repeat first | exact Del.head _ _ | apply Del.tail); done))))) ?_
  rintro u11 _ ⟨_, ⟨rfl, rfl⟩, rfl⟩
  try simp only [List.cons_append, List.nil_append]
  refine TO.p (DP.as (by conv => lhs; whnf)) ?_
  refine TO.nil ?_
  refine TQ.nn ?_
  refine T.seq ?_
  refine T.reg ?_
  refine TO.p (DP.mv (by conv => lhs; whnf)) ?_
  refine TO.p (DP.neq (a := 1) (b := 0) rfl rfl) ?_
  refine TO.nil ?_
  refine TQ.nn ?_
  refine T.condD rfl (fun hc0 => ?_) (fun hc0 => ?_)
  · refine T.seq ?_
    refine T.reg ?_
    refine TO.p (DP.mv (by conv => lhs; whnf)) ?_
    refine TO.p (DP.as (by conv => lhs; whnf)) ?_
    refine TO.nil ?_
    refine TQ.nn ?_
    refine T.ret ?_
    refine TQ.nr ?_
    refine TQ.ret (vs := [.int .i64 1]) (L' := []) rfl ⟨rfl, rfl⟩ ⟨rfl, rfl⟩ (by (refine Ent.imp ?_; repeat first | exact Imp.refl _ | exact Imp.nil _ | (apply Imp.pull; focus ((repeat first | exact Del.head _ _ | apply Del.tail); done)) | (apply Imp.row; focus ((repeat first | exact Del.head _ _ | apply Del.tail); done)) | apply Imp.drop))
  · exact absurd (by decide) hc0

theorem lend_bad (p b a l : Nat) (v : Value) (bs : List UInt8) (ss : List Spn) (hbs : bs.length ≤ 1048576) (hlen : ss.length ≤ 1048576) (hb : ∀ s ∈ ss, s.1 + s.2 ≤ 1048576) (ha : a < 4294967296) (hl : l < 4294967296) (h0 : 0 < l) (h : a + l ≤ bs.length) (hs : 0 < sharedN ss a l) :
    Sat Try.prog 14 [.pointer (some ⟨p, 0, none⟩), .agg #[.int .u32 a, .int .u32 l]] [row 78 p [.slice (some ⟨b, 0, none⟩) bs.length bs.length, v], row 5 b (bs.map byteV), sl 42 2 v ss.length (spans ss)] (fun u L' => u = .int .i64 11 ∧ L' = [row 78 p [.slice (some ⟨b, 0, none⟩) bs.length bs.length, v], row 5 b (bs.map byteV), sl 42 2 v ss.length (spans ss)]) := by
  refine Sat.enter Try.func14 rfl Try.ntmps14 rfl (fun c R => ?_)
  try simp only [List.cons_append, List.nil_append]
  refine T.seq ?_
  refine T.reg ?_
  refine TO.n (N.bxA rfl) ?_
  rintro _ _ ⟨b3, rfl, rfl⟩
  refine TO.p (DP.as (by conv => lhs; whnf)) ?_
  refine TO.nil ?_
  refine TQ.nn ?_
  refine T.seq ?_
  refine T.seq ?_
  refine T.reg ?_
  refine TO.p (DP.mv (by conv => lhs; whnf)) ?_
  refine TO.d (D.ldRA rfl ag42 sz42 (by (repeat first | exact LMem.head _ _ | apply LMem.tail)) (by rfl)) ?_
  refine TO.n (N.callF (span_ok p bs.length b a l v hbs ha hl h0 h) Try.call42 ⟨rfl, rfl, trivial⟩ (by (repeat first | exact Pick.nil _ | (apply Pick.cons; focus ((repeat first | exact Del.head _ _ | apply Del.tail); done))))) ?_
  rintro u10 _ ⟨_, ⟨rfl, rfl⟩, rfl⟩
  try simp only [List.cons_append, List.nil_append]
  refine TO.p (DP.as (by conv => lhs; whnf)) ?_
  refine TO.nil ?_
  refine TQ.nn ?_
  refine T.seq ?_
  refine T.reg ?_
  refine TO.p (DP.mv (by conv => lhs; whnf)) ?_
  refine TO.p (DP.neq (a := 0) (b := 0) rfl rfl) ?_
  refine TO.nil ?_
  refine TQ.nn ?_
  refine T.condD rfl (fun hc0 => ?_) (fun hc0 => ?_)
  · exact absurd rfl hc0
  · refine T.skip ?_
    refine TQ.nn ?_
    refine T.seq ?_
    refine T.seq ?_
    refine T.reg ?_
    refine TO.p (DP.mv (by conv => lhs; whnf)) ?_
    refine TO.d (D.ldRA rfl ag42 sz42 (by (repeat first | exact LMem.head _ _ | apply LMem.tail)) (by rfl)) ?_
    refine TO.n (N.callF (shared_spec p a l _ v ss hlen hb ha hl) Try.call41 ⟨rfl, rfl, trivial⟩ (by (repeat first | exact Pick.nil _ | (apply Pick.cons; focus ((repeat first | exact Del.head _ _ | apply Del.tail); done))))) ?_
    rintro u16 _ ⟨_, ⟨rfl, rfl⟩, rfl⟩
    try simp only [List.cons_append, List.nil_append]
    refine TO.p (DP.gtr (b := 0) rfl rfl) ?_
    refine TO.nil ?_
    refine TQ.nn ?_
    refine T.condD rfl (fun hc1 => ?_) (fun hc1 => ?_)
    · refine T.seq ?_
      refine T.reg ?_
      refine TO.p (DP.as (by conv => lhs; whnf)) ?_
      refine TO.nil ?_
      refine TQ.nn ?_
      refine T.ret ?_
      refine TQ.nr ?_
      refine TQ.ret (vs := [.int .i64 11]) (L' := [_, _, _]) rfl ⟨rfl, rfl⟩ ⟨rfl, rfl⟩ (by (refine Ent.imp ?_; repeat first | exact Imp.refl _ | exact Imp.nil _ | (apply Imp.pull; focus ((repeat first | exact Del.head _ _ | apply Del.tail); done)) | (apply Imp.row; focus ((repeat first | exact Del.head _ _ | apply Del.tail); done)) | apply Imp.drop))
    · exact absurd hs (by omega)

theorem lend_ok (p b a l : Nat) (v : Value) (bs : List UInt8) (ss : List Spn) (hbs : bs.length ≤ 1048576) (hlen : ss.length ≤ 1048576) (hb : ∀ s ∈ ss, s.1 + s.2 ≤ 1048576) (ha : a < 4294967296) (hl : l < 4294967296) (h0 : 0 < l) (h : a + l ≤ bs.length) (hs : sharedN ss a l = 0) (hsort : ∀ (m h : Nat) (x y : Spn), m ≤ h → ss[m]? = some x → ss[h]? = some y → x.1 ≤ y.1) :
    Sat Try.prog 14 [.pointer (some ⟨p, 0, none⟩), .agg #[.int .u32 a, .int .u32 l]] [row 78 p [.slice (some ⟨b, 0, none⟩) bs.length bs.length, v], row 5 b (bs.map byteV), sl 42 2 v ss.length (spans ss)] (fun u L' => ∃ v' pre post, u = .int .i64 0 ∧ ss = pre ++ post ∧ (∀ s ∈ pre, s.1 < a) ∧ (∀ s ∈ post, a ≤ s.1) ∧ L' = [row 78 p [.slice (some ⟨b, 0, none⟩) bs.length bs.length, v'], row 5 b (bs.map byteV), sl 42 2 v' (mergeP pre a (mergeN a l post).1 (mergeN a l post).2).length (spans (mergeP pre a (mergeN a l post).1 (mergeN a l post).2))]) := by
  refine Sat.enter Try.func14 rfl Try.ntmps14 rfl (fun c R => ?_)
  try simp only [List.cons_append, List.nil_append]
  refine T.seq ?_
  refine T.reg ?_
  refine TO.n (N.bxA rfl) ?_
  rintro _ _ ⟨b3, rfl, rfl⟩
  refine TO.p (DP.as (by conv => lhs; whnf)) ?_
  refine TO.nil ?_
  refine TQ.nn ?_
  refine T.seq ?_
  refine T.seq ?_
  refine T.reg ?_
  refine TO.p (DP.mv (by conv => lhs; whnf)) ?_
  refine TO.d (D.ldRA rfl ag42 sz42 (by (repeat first | exact LMem.head _ _ | apply LMem.tail)) (by rfl)) ?_
  refine TO.n (N.callF (span_ok p bs.length b a l v hbs ha hl h0 h) Try.call42 ⟨rfl, rfl, trivial⟩ (by (repeat first | exact Pick.nil _ | (apply Pick.cons; focus ((repeat first | exact Del.head _ _ | apply Del.tail); done))))) ?_
  rintro u10 _ ⟨_, ⟨rfl, rfl⟩, rfl⟩
  try simp only [List.cons_append, List.nil_append]
  refine TO.p (DP.as (by conv => lhs; whnf)) ?_
  refine TO.nil ?_
  refine TQ.nn ?_
  refine T.seq ?_
  refine T.reg ?_
  refine TO.p (DP.mv (by conv => lhs; whnf)) ?_
  refine TO.p (DP.neq (a := 0) (b := 0) rfl rfl) ?_
  refine TO.nil ?_
  refine TQ.nn ?_
  refine T.condD rfl (fun hc0 => ?_) (fun hc0 => ?_)
  · exact absurd rfl hc0
  · refine T.skip ?_
    refine TQ.nn ?_
    refine T.seq ?_
    refine T.seq ?_
    refine T.reg ?_
    refine TO.p (DP.mv (by conv => lhs; whnf)) ?_
    refine TO.d (D.ldRA rfl ag42 sz42 (by (repeat first | exact LMem.head _ _ | apply LMem.tail)) (by rfl)) ?_
    refine TO.n (N.callF (shared_spec p a l _ v ss hlen hb ha hl) Try.call41 ⟨rfl, rfl, trivial⟩ (by (repeat first | exact Pick.nil _ | (apply Pick.cons; focus ((repeat first | exact Del.head _ _ | apply Del.tail); done))))) ?_
    rintro u16 _ ⟨_, ⟨rfl, rfl⟩, rfl⟩
    try simp only [List.cons_append, List.nil_append]
    refine TO.p (DP.gtr (b := 0) rfl rfl) ?_
    refine TO.nil ?_
    refine TQ.nn ?_
    refine T.condD rfl (fun hc1 => ?_) (fun hc1 => ?_)
    · exact absurd hc1 (by omega)
    · refine T.skip ?_
      refine TQ.nn ?_
      refine T.seq ?_
      refine T.drawL [5] mixed (by repeat first | exact Calm.rt | apply Calm.t | apply Calm.b | apply Calm.l | apply Calm.ct) ?_
      refine TR.p 0 rfl (by kernel_rfl) (DP.mv (by conv => lhs; whnf)) ?_
      refine TR.p 1 rfl (by kernel_rfl) (DP.nck rfl) ?_
      refine TR.p 2 rfl (by kernel_rfl) (DP.fa 1 rfl Try.underlying78 rfl rfl sz36) ?_
      refine TR.d 3 rfl (by kernel_rfl) (by kernel_rfl) (by (refine Ent.imp ?_; repeat first | exact Imp.refl _ | exact Imp.nil _ | (apply Imp.pull; focus ((repeat first | exact Del.head _ _ | apply Del.tail); done)) | (apply Imp.row; focus ((repeat first | exact Del.head _ _ | apply Del.tail); done)) | apply Imp.drop)) (D.ldR rfl pl36 (by (repeat first | exact LMem.head _ _ | apply LMem.tail)) (by rfl)) ?_
      refine TR.d 4 rfl (by kernel_rfl) (by kernel_rfl) (by (refine Ent.imp ?_; repeat first | exact Imp.refl _ | exact Imp.nil _ | (apply Imp.pull; focus ((repeat first | exact Del.head _ _ | apply Del.tail); done)) | (apply Imp.row; focus ((repeat first | exact Del.head _ _ | apply Del.tail); done)) | apply Imp.drop)) (D.ldRA rfl ag42 sz42 (by (repeat first | exact LMem.head _ _ | apply LMem.tail)) (by rfl)) ?_
      refine TR.n 5 (by kernel_rfl) rfl (N.callF (bsf_spec v ss a l hlen (fun s hs => by have := hb s hs; omega) ha hsort) Try.call43 ⟨rfl, rfl, rfl, trivial⟩ (by (repeat first | exact Pick.nil _ | (apply Pick.cons; focus ((repeat first | exact Del.head _ _ | apply Del.tail); done))))) ?_
      rintro u24 _ ⟨_, ⟨i, fd, rfl, hi, hpre, hpost, rfl⟩, rfl⟩
      try simp only [List.cons_append, List.nil_append]
      refine ⟨.inl rfl, ?_⟩
      refine TR.p 6 rfl (by kernel_rfl) (DP.mv (by conv => lhs; whnf)) ?_
      refine TR.p 7 rfl (by kernel_rfl) (DP.ex rfl rfl) ?_
      refine TR.p 8 rfl (by kernel_rfl) (DP.ex rfl rfl) ?_
      refine TR.p 9 rfl (by kernel_rfl) (DP.as (by conv => lhs; whnf)) ?_
      refine TR.p 10 rfl (by kernel_rfl) (DP.as (by conv => lhs; whnf)) ?_
      refine TR.done (by kernel_rfl) ?_
      refine TQ.nn ?_
      refine T.seq ?_
      refine T.drawL [8, 11] mixed (by repeat first | exact Calm.rt | apply Calm.t | apply Calm.b | apply Calm.l | apply Calm.ct) ?_
      refine TR.p 0 rfl (by kernel_rfl) (DP.mv (by conv => lhs; whnf)) ?_
      refine TR.p 1 rfl (by kernel_rfl) (DP.mv (by conv => lhs; whnf)) ?_
      refine TR.p 2 rfl (by kernel_rfl) (DP.nck rfl) ?_
      refine TR.p 3 rfl (by kernel_rfl) (DP.fa 1 rfl Try.underlying78 rfl rfl sz36) ?_
      refine TR.d 4 rfl (by kernel_rfl) (by kernel_rfl) (by (refine Ent.imp ?_; repeat first | exact Imp.refl _ | exact Imp.nil _ | (apply Imp.pull; focus ((repeat first | exact Del.head _ _ | apply Del.tail); done)) | (apply Imp.row; focus ((repeat first | exact Del.head _ _ | apply Del.tail); done)) | apply Imp.drop)) (D.ldR rfl pl36 (by (repeat first | exact LMem.head _ _ | apply LMem.tail)) (by rfl)) ?_
      refine TR.p 5 rfl (by kernel_rfl) (DP.mv (by conv => lhs; whnf)) ?_
      refine TR.d 6 rfl (by kernel_rfl) (by kernel_rfl) (by (refine Ent.imp ?_; repeat first | exact Imp.refl _ | exact Imp.nil _ | (apply Imp.pull; focus ((repeat first | exact Del.head _ _ | apply Del.tail); done)) | (apply Imp.row; focus ((repeat first | exact Del.head _ _ | apply Del.tail); done)) | apply Imp.drop)) (D.ldRA rfl ag42 sz42 (by (repeat first | exact LMem.head _ _ | apply LMem.tail)) (by rfl)) ?_
      refine TR.n 7 (by kernel_rfl) rfl (N.bsL (len := 1) (vs := [(0, _)]) (us := [_, _]) ⟨rfl, (by conv => lhs; whnf), trivial⟩ Try.underlying36 sz42 zr42 rfl (by omega) rfl) ?_
      rintro _ _ ⟨b34, rfl, rfl⟩
      refine ⟨.inr (by (refine Ent.imp ?_; repeat first | exact Imp.refl _ | exact Imp.nil _ | (apply Imp.pull; focus ((repeat first | exact Del.head _ _ | apply Del.tail); done)) | (apply Imp.row; focus ((repeat first | exact Del.head _ _ | apply Del.tail); done)) | apply Imp.drop)), ?_⟩
      refine TR.n 8 (by kernel_rfl) rfl (N.callF (insert_spec b34 i a l v ss hlen hi) Try.call45 ⟨rfl, rfl, rfl, trivial⟩ (by (repeat first | exact Pick.nil _ | (apply Pick.cons; focus ((repeat first | exact Del.head _ _ | apply Del.tail); done))))) ?_
      rintro u35 _ ⟨_, rfl, rfl⟩
      try simp only [List.cons_append, List.nil_append]
      refine ⟨.inl rfl, ?_⟩
      refine TR.p 9 rfl (by kernel_rfl) (DP.nck rfl) ?_
      refine TR.p 10 rfl (by kernel_rfl) (DP.fa 1 rfl Try.underlying78 rfl rfl sz36) ?_
      refine TR.n0 11 (by kernel_rfl) rfl (N.stS rfl (by conv => lhs; whnf) sz36 (by (repeat first | exact LMem.head _ _ | apply LMem.tail)) (by (repeat first | exact Put.head _ _ _ | apply Put.tail)) (by simp)) ?_
      rintro _ _ ⟨rfl, rfl⟩
      obtain ⟨pre, hpr⟩ : ∃ pre, pre = ss.take i := ⟨_, rfl⟩
      obtain ⟨post, hpo⟩ : ∃ post, post = ss.drop i := ⟨_, rfl⟩
      rw [← hpr] at hpre
      rw [← hpo] at hpost
      rw [← hpr, ← hpo]
      have hss : ss = pre ++ post := by rw [hpr, hpo, List.take_append_drop]
      have hprl : pre.length = i := by rw [hpr, List.length_take]; omega
      have hl1 : (pre ++ (a, l) :: post).length = i + 1 + post.length := by simp; omega
      have hll : ss.length = i + post.length := by rw [hss, List.length_append]; omega
      have hbp : ∀ s ∈ post, s.1 + s.2 ≤ 1048576 := fun s h => hb s (by rw [hss]; simp [h])
      have hbq : ∀ s ∈ pre, s.1 + s.2 ≤ 1048576 := fun s h => hb s (by rw [hss]; simp [h])
      have hx1 : (pre ++ (a, l) :: post)[i]? = some (a, l) := by rw [List.getElem?_append_right (by omega)]; simp [hprl]
      refine ⟨.inl rfl, ?_⟩
      refine TR.done (by kernel_rfl) ?_
      refine TQ.nn ?_
      refine T.cut (S := Value × Nat × List Spn) (fun ⟨v2, l2, post2⟩ => [(0, .pointer (some ⟨p, 0, none⟩)), (3, .pointer (some ⟨b3, 0, none⟩)), (6, .int .i64 (i : Nat))]) (fun ⟨v2, l2, post2⟩ => row 78 p [.slice (some ⟨b, 0, none⟩) bs.length bs.length, v2] :: sl 42 2 v2 (pre ++ (a, l2) :: post2).length (spans (pre ++ (a, l2) :: post2)) :: row 42 b3 [.int .u32 a, .int .u32 l] :: row 5 b (bs.map byteV) :: R) (fun ⟨v2, l2, post2⟩ => (l2, post2) = mergeN a l post ∧ l2 ≤ 2097152) ?_ ?_
      · refine T.seq ?_
        refine T.drawL [] mixed (by repeat first | exact Calm.rt | apply Calm.t | apply Calm.b | apply Calm.l | apply Calm.ct) ?_
        refine TR.p 0 rfl (by kernel_rfl) (DP.mv (by conv => lhs; whnf)) ?_
        refine TR.p 1 rfl (by kernel_rfl) (DP.add (b := 1) rfl rfl (l := 9223372036854775808) rfl (by omega)) ?_
        refine TR.p 2 rfl (by kernel_rfl) (DP.mv (by conv => lhs; whnf)) ?_
        refine TR.p 3 rfl (by kernel_rfl) (DP.nck rfl) ?_
        refine TR.p 4 rfl (by kernel_rfl) (DP.fa 1 rfl Try.underlying78 rfl rfl sz36) ?_
        refine TR.d 5 rfl (by kernel_rfl) (by kernel_rfl) (by (refine Ent.imp ?_; repeat first | exact Imp.refl _ | exact Imp.nil _ | (apply Imp.pull; focus ((repeat first | exact Del.head _ _ | apply Del.tail); done)) | (apply Imp.row; focus ((repeat first | exact Del.head _ _ | apply Del.tail); done)) | apply Imp.drop)) (D.ldR rfl pl36 (by (repeat first | exact LMem.head _ _ | apply LMem.tail)) (by rfl)) ?_
        refine TR.d 6 rfl (by kernel_rfl) (by kernel_rfl) (by (refine Ent.imp ?_; repeat first | exact Imp.refl _ | exact Imp.nil _ | (apply Imp.pull; focus ((repeat first | exact Del.head _ _ | apply Del.tail); done)) | (apply Imp.row; focus ((repeat first | exact Del.head _ _ | apply Del.tail); done)) | apply Imp.drop)) (D.lenO (by conv => lhs; whnf) Try.underlying36 (by (repeat first | exact LMem.head _ _ | apply LMem.tail))) ?_
        refine TR.p 7 rfl (by kernel_rfl) (DP.lss rfl rfl) ?_
        refine TR.pB 8 rfl (by kernel_rfl) (DP.mv (by conv => lhs; whnf)) (fun hg46 => ?_) (fun hg46 => ?_)
        · obtain ⟨x2, post2, rfl⟩ : ∃ x t, post = x :: t := by
            cases post with
            | nil => simp only [List.length_nil] at hl1; omega
            | cons x t => exact ⟨x, t, rfl⟩
          have hx2 : (pre ++ (a, l) :: x2 :: post2)[i + 1]? = some x2 := by rw [List.getElem?_append_right (by omega)]; simp [hprl]
          have hx2b := hbp x2 (by simp)
          simp only [List.length_cons] at hl1 hll
          refine TR.don 9 rfl (by kernel_rfl) (by kernel_rfl) (by (refine Ent.imp ?_; repeat first | exact Imp.refl _ | exact Imp.nil _ | (apply Imp.pull; focus ((repeat first | exact Del.head _ _ | apply Del.tail); done)) | (apply Imp.row; focus ((repeat first | exact Del.head _ _ | apply Del.tail); done)) | apply Imp.drop)) rfl (D.ldRA rfl ag42 sz42 (by (repeat first | exact LMem.head _ _ | apply LMem.tail)) (by rfl)) ?_
          refine TR.pon 11 rfl (by kernel_rfl) rfl (DP.mv (by conv => lhs; whnf)) ?_
          refine TR.pon 12 rfl (by kernel_rfl) rfl (DP.nck rfl) ?_
          refine TR.pon 13 rfl (by kernel_rfl) rfl (DP.fa 1 rfl Try.underlying78 rfl rfl sz36) ?_
          refine TR.don 14 rfl (by kernel_rfl) (by kernel_rfl) (by (refine Ent.imp ?_; repeat first | exact Imp.refl _ | exact Imp.nil _ | (apply Imp.pull; focus ((repeat first | exact Del.head _ _ | apply Del.tail); done)) | (apply Imp.row; focus ((repeat first | exact Del.head _ _ | apply Del.tail); done)) | apply Imp.drop)) rfl (D.ldR rfl pl36 (by (repeat first | exact LMem.head _ _ | apply LMem.tail)) (by rfl)) ?_
          refine TR.pon 15 rfl (by kernel_rfl) rfl (DP.mv (by conv => lhs; whnf)) ?_
          refine TR.pon 16 rfl (by kernel_rfl) rfl (DP.add (b := 1) rfl rfl (l := 9223372036854775808) rfl (by omega)) ?_
          refine TR.don 17 rfl (by kernel_rfl) (by kernel_rfl) (by (refine Ent.imp ?_; repeat first | exact Imp.refl _ | exact Imp.nil _ | (apply Imp.pull; focus ((repeat first | exact Del.head _ _ | apply Del.tail); done)) | (apply Imp.row; focus ((repeat first | exact Del.head _ _ | apply Del.tail); done)) | apply Imp.drop)) rfl (D.iasO (by conv => lhs; whnf) rfl Try.underlying36 sz42 (by (repeat first | exact LMem.head _ _ | apply LMem.tail)) (by omega)) ?_
          refine TR.don 18 rfl (by kernel_rfl) (by kernel_rfl) (by (refine Ent.imp ?_; repeat first | exact Imp.refl _ | exact Imp.nil _ | (apply Imp.pull; focus ((repeat first | exact Del.head _ _ | apply Del.tail); done)) | (apply Imp.row; focus ((repeat first | exact Del.head _ _ | apply Del.tail); done)) | apply Imp.drop)) rfl (D.faO 0 (by conv => lhs; whnf) Try.underlying42 rfl rfl sz30 (by (repeat first | exact LMem.head _ _ | apply LMem.tail)) (by omega)) ?_
          refine TR.don 19 rfl (by kernel_rfl) (by kernel_rfl) (by (refine Ent.imp ?_; repeat first | exact Imp.refl _ | exact Imp.nil _ | (apply Imp.pull; focus ((repeat first | exact Del.head _ _ | apply Del.tail); done)) | (apply Imp.row; focus ((repeat first | exact Del.head _ _ | apply Del.tail); done)) | apply Imp.drop)) rfl (D.ldOF (by conv => lhs; whnf) pl30 (by (repeat first | exact LMem.head _ _ | apply LMem.tail)) (spans_at hx2) (by omega)) ?_
          refine TR.pon 20 rfl (by kernel_rfl) rfl (DP.cv rfl is30 Try.underlying31 (l := 18446744073709551616) rfl (by omega)) ?_
          refine TR.non 10 (by kernel_rfl) rfl rfl (N.callF (end_spec a l ha hl) Try.call46 ⟨rfl, trivial⟩ (by (repeat first | exact Pick.nil _ | (apply Pick.cons; focus ((repeat first | exact Del.head _ _ | apply Del.tail); done))))) ?_
          rintro u48 _ ⟨_, ⟨rfl, rfl⟩, rfl⟩
          try simp only [List.cons_append, List.nil_append]
          refine ⟨.inr (by (refine Ent.imp ?_; repeat first | exact Imp.refl _ | exact Imp.nil _ | (apply Imp.pull; focus ((repeat first | exact Del.head _ _ | apply Del.tail); done)) | (apply Imp.row; focus ((repeat first | exact Del.head _ _ | apply Del.tail); done)) | apply Imp.drop)), ?_⟩
          refine TR.pon 21 rfl (by kernel_rfl) rfl (DP.eql rfl rfl) ?_
          refine TR.p 22 rfl (by kernel_rfl) (DP.pkT rfl (by conv => lhs; whnf)) ?_
          refine TR.done (by kernel_rfl) ?_
          refine TQ.nn ?_
          refine T.condD rfl (fun hc2 => ?_) (fun hc2 => ?_)
          · have h68 := spans_ln hx1
            have h77 := spans_ln hx2
            refine T.seq ?_
            refine T.drawL [20] mixed (by repeat first | exact Calm.rt | apply Calm.t | apply Calm.b | apply Calm.l | apply Calm.ct) ?_
            refine TR.p 0 rfl (by kernel_rfl) (DP.mv (by conv => lhs; whnf)) ?_
            refine TR.p 1 rfl (by kernel_rfl) (DP.nck rfl) ?_
            refine TR.p 2 rfl (by kernel_rfl) (DP.fa 1 rfl Try.underlying78 rfl rfl sz36) ?_
            refine TR.d 3 rfl (by kernel_rfl) (by kernel_rfl) (by (refine Ent.imp ?_; repeat first | exact Imp.refl _ | exact Imp.nil _ | (apply Imp.pull; focus ((repeat first | exact Del.head _ _ | apply Del.tail); done)) | (apply Imp.row; focus ((repeat first | exact Del.head _ _ | apply Del.tail); done)) | apply Imp.drop)) (D.ldR rfl pl36 (by (repeat first | exact LMem.head _ _ | apply LMem.tail)) (by rfl)) ?_
            refine TR.p 4 rfl (by kernel_rfl) (DP.mv (by conv => lhs; whnf)) ?_
            refine TR.d 5 rfl (by kernel_rfl) (by kernel_rfl) (by (refine Ent.imp ?_; repeat first | exact Imp.refl _ | exact Imp.nil _ | (apply Imp.pull; focus ((repeat first | exact Del.head _ _ | apply Del.tail); done)) | (apply Imp.row; focus ((repeat first | exact Del.head _ _ | apply Del.tail); done)) | apply Imp.drop)) (D.iasO (by conv => lhs; whnf) rfl Try.underlying36 sz42 (by (repeat first | exact LMem.head _ _ | apply LMem.tail)) (by omega)) ?_
            refine TR.d 6 rfl (by kernel_rfl) (by kernel_rfl) (by (refine Ent.imp ?_; repeat first | exact Imp.refl _ | exact Imp.nil _ | (apply Imp.pull; focus ((repeat first | exact Del.head _ _ | apply Del.tail); done)) | (apply Imp.row; focus ((repeat first | exact Del.head _ _ | apply Del.tail); done)) | apply Imp.drop)) (D.faO 1 (by conv => lhs; whnf) Try.underlying42 rfl rfl sz30 (by (repeat first | exact LMem.head _ _ | apply LMem.tail)) (by omega)) ?_
            refine TR.d 7 rfl (by kernel_rfl) (by kernel_rfl) (by (refine Ent.imp ?_; repeat first | exact Imp.refl _ | exact Imp.nil _ | (apply Imp.pull; focus ((repeat first | exact Del.head _ _ | apply Del.tail); done)) | (apply Imp.row; focus ((repeat first | exact Del.head _ _ | apply Del.tail); done)) | apply Imp.drop)) (D.ldOF (by conv => lhs; whnf) pl30 (by (repeat first | exact LMem.head _ _ | apply LMem.tail)) h68 (by omega)) ?_
            refine TR.p 8 rfl (by kernel_rfl) (DP.mv (by conv => lhs; whnf)) ?_
            refine TR.p 9 rfl (by kernel_rfl) (DP.nck rfl) ?_
            refine TR.p 10 rfl (by kernel_rfl) (DP.fa 1 rfl Try.underlying78 rfl rfl sz36) ?_
            refine TR.d 11 rfl (by kernel_rfl) (by kernel_rfl) (by (refine Ent.imp ?_; repeat first | exact Imp.refl _ | exact Imp.nil _ | (apply Imp.pull; focus ((repeat first | exact Del.head _ _ | apply Del.tail); done)) | (apply Imp.row; focus ((repeat first | exact Del.head _ _ | apply Del.tail); done)) | apply Imp.drop)) (D.ldR rfl pl36 (by (repeat first | exact LMem.head _ _ | apply LMem.tail)) (by rfl)) ?_
            refine TR.p 12 rfl (by kernel_rfl) (DP.mv (by conv => lhs; whnf)) ?_
            refine TR.p 13 rfl (by kernel_rfl) (DP.add (b := 1) rfl rfl (l := 9223372036854775808) rfl (by omega)) ?_
            refine TR.d 14 rfl (by kernel_rfl) (by kernel_rfl) (by (refine Ent.imp ?_; repeat first | exact Imp.refl _ | exact Imp.nil _ | (apply Imp.pull; focus ((repeat first | exact Del.head _ _ | apply Del.tail); done)) | (apply Imp.row; focus ((repeat first | exact Del.head _ _ | apply Del.tail); done)) | apply Imp.drop)) (D.iasO (by conv => lhs; whnf) rfl Try.underlying36 sz42 (by (repeat first | exact LMem.head _ _ | apply LMem.tail)) (by omega)) ?_
            refine TR.d 15 rfl (by kernel_rfl) (by kernel_rfl) (by (refine Ent.imp ?_; repeat first | exact Imp.refl _ | exact Imp.nil _ | (apply Imp.pull; focus ((repeat first | exact Del.head _ _ | apply Del.tail); done)) | (apply Imp.row; focus ((repeat first | exact Del.head _ _ | apply Del.tail); done)) | apply Imp.drop)) (D.faO 1 (by conv => lhs; whnf) Try.underlying42 rfl rfl sz30 (by (repeat first | exact LMem.head _ _ | apply LMem.tail)) (by omega)) ?_
            refine TR.d 16 rfl (by kernel_rfl) (by kernel_rfl) (by (refine Ent.imp ?_; repeat first | exact Imp.refl _ | exact Imp.nil _ | (apply Imp.pull; focus ((repeat first | exact Del.head _ _ | apply Del.tail); done)) | (apply Imp.row; focus ((repeat first | exact Del.head _ _ | apply Del.tail); done)) | apply Imp.drop)) (D.ldOF (by conv => lhs; whnf) pl30 (by (repeat first | exact LMem.head _ _ | apply LMem.tail)) h77 (by omega)) ?_
            refine TR.p 17 rfl (by kernel_rfl) (DP.add rfl rfl (l := 4294967296) rfl (by omega)) ?_
            refine TR.d 18 rfl (by kernel_rfl) (by kernel_rfl) (by (refine Ent.imp ?_; repeat first | exact Imp.refl _ | exact Imp.nil _ | (apply Imp.pull; focus ((repeat first | exact Del.head _ _ | apply Del.tail); done)) | (apply Imp.row; focus ((repeat first | exact Del.head _ _ | apply Del.tail); done)) | apply Imp.drop)) (D.iasO (by conv => lhs; whnf) rfl Try.underlying36 sz42 (by (repeat first | exact LMem.head _ _ | apply LMem.tail)) (by omega)) ?_
            refine TR.d 19 rfl (by kernel_rfl) (by kernel_rfl) (by (refine Ent.imp ?_; repeat first | exact Imp.refl _ | exact Imp.nil _ | (apply Imp.pull; focus ((repeat first | exact Del.head _ _ | apply Del.tail); done)) | (apply Imp.row; focus ((repeat first | exact Del.head _ _ | apply Del.tail); done)) | apply Imp.drop)) (D.faO 1 (by conv => lhs; whnf) Try.underlying42 rfl rfl sz30 (by (repeat first | exact LMem.head _ _ | apply LMem.tail)) (by omega)) ?_
            refine TR.n0 20 (by kernel_rfl) rfl (N.stOF (by conv => lhs; whnf) (by conv => lhs; whnf) sz30 (by (repeat first | exact Put.head _ _ _ | apply Put.tail)) (by omega) (by decide) rfl) ?_
            rintro _ _ ⟨rfl, rfl⟩
            rw [spans_set hx1, show (pre ++ (a, l) :: x2 :: post2).set i (a, l + x2.2) = pre ++ (a, l + x2.2) :: x2 :: post2 by rw [List.set_append_right _ _ (by omega)]; simp [hprl], show (pre ++ (a, l) :: x2 :: post2).length = (pre ++ (a, l + x2.2) :: x2 :: post2).length by simp]
            have hl3 : (pre ++ (a, l + x2.2) :: x2 :: post2).length = i + 1 + (post2.length + 1) := by rw [← hl1]; simp
            refine ⟨.inl rfl, ?_⟩
            refine TR.done (by kernel_rfl) ?_
            refine TQ.nn ?_
            refine T.reg ?_
            refine TO.p (DP.mv (by conv => lhs; whnf)) ?_
            refine TO.p (DP.mv (by conv => lhs; whnf)) ?_
            refine TO.p (DP.nck rfl) ?_
            refine TO.p (DP.fa 1 rfl Try.underlying78 rfl rfl sz36) ?_
            refine TO.d (D.ldR rfl pl36 (by (repeat first | exact LMem.head _ _ | apply LMem.tail)) (by rfl)) ?_
            refine TO.p (DP.mv (by conv => lhs; whnf)) ?_
            refine TO.p (DP.add (b := 1) rfl rfl (l := 9223372036854775808) rfl (by omega)) ?_
            refine TO.p (DP.mv (by conv => lhs; whnf)) ?_
            refine TO.p (DP.to (v' := .int .i64 ((i + 1 + 1 : Nat) : Int)) (DP.add (b := 2) rfl rfl (l := 9223372036854775808) rfl (by omega)) rfl) ?_
            refine TO.n (N.callF (delete_spec (i + 1) u35 (pre ++ (a, l + x2.2) :: x2 :: post2) (by omega) (by omega)) Try.call47 ⟨rfl, rfl, rfl, trivial⟩ (by (repeat first | exact Pick.nil _ | (apply Pick.cons; focus ((repeat first | exact Del.head _ _ | apply Del.tail); done))))) ?_
            rintro u90 _ ⟨_, rfl, rfl⟩
            try simp only [List.cons_append, List.nil_append]
            rw [show (pre ++ (a, l + x2.2) :: x2 :: post2).take (i + 1) ++ (pre ++ (a, l + x2.2) :: x2 :: post2).drop (i + 1 + 1) = pre ++ (a, l + x2.2) :: post2 by subst hprl; exact del_next _ _ _ _]
            refine TO.p (DP.nck rfl) ?_
            refine TO.p (DP.fa 1 rfl Try.underlying78 rfl rfl sz36) ?_
            refine TO.n0 (N.stS rfl (by conv => lhs; whnf) sz36 (by (repeat first | exact LMem.head _ _ | apply LMem.tail)) (by (repeat first | exact Put.head _ _ _ | apply Put.tail)) (by simp)) ?_
            rintro _ _ ⟨rfl, rfl⟩
            refine TO.nil ?_
            refine TQ.cn ⟨u90, l + x2.2, post2⟩ rfl ?_ ?_ ?_
            · (repeat first | exact trivial | refine ⟨rfl, ?_⟩)
            · exact ⟨by simp [mergeN]; try assumption, by (try dsimp only); omega⟩
            · (refine Ent.imp ?_; repeat first | exact Imp.refl _ | exact Imp.nil _ | (apply Imp.pull; focus ((repeat first | exact Del.head _ _ | apply Del.tail); done)) | (apply Imp.row; focus ((repeat first | exact Del.head _ _ | apply Del.tail); done)) | apply Imp.drop)
          · refine T.skip ?_
            refine TQ.cn ⟨u35, l, x2 :: post2⟩ rfl ?_ ?_ ?_
            · (repeat first | exact trivial | refine ⟨rfl, ?_⟩)
            · exact ⟨by simp [mergeN]; try assumption, by (try dsimp only); omega⟩
            · (refine Ent.imp ?_; repeat first | exact Imp.refl _ | exact Imp.nil _ | (apply Imp.pull; focus ((repeat first | exact Del.head _ _ | apply Del.tail); done)) | (apply Imp.row; focus ((repeat first | exact Del.head _ _ | apply Del.tail); done)) | apply Imp.drop)
        · obtain rfl : post = [] := List.eq_nil_of_length_eq_zero (by omega)
          refine TR.off 9 rfl (by kernel_rfl) rfl rfl ?_
          refine TR.off 10 rfl (by kernel_rfl) rfl rfl ?_
          refine TR.off 11 rfl (by kernel_rfl) rfl rfl ?_
          refine TR.off 12 rfl (by kernel_rfl) rfl rfl ?_
          refine TR.off 13 rfl (by kernel_rfl) rfl rfl ?_
          refine TR.off 14 rfl (by kernel_rfl) rfl rfl ?_
          refine TR.off 15 rfl (by kernel_rfl) rfl rfl ?_
          refine TR.off 16 rfl (by kernel_rfl) rfl rfl ?_
          refine TR.off 17 rfl (by kernel_rfl) rfl rfl ?_
          refine TR.off 18 rfl (by kernel_rfl) rfl rfl ?_
          refine TR.off 19 rfl (by kernel_rfl) rfl rfl ?_
          refine TR.off 20 rfl (by kernel_rfl) rfl rfl ?_
          refine TR.off 21 rfl (by kernel_rfl) rfl rfl ?_
          refine TR.p 22 rfl (by kernel_rfl) (DP.pkF rfl (by conv => lhs; whnf)) ?_
          refine TR.done (by kernel_rfl) ?_
          refine TQ.nn ?_
          refine T.condF rfl ?_
          refine T.skip ?_
          refine TQ.cn ⟨u35, l, []⟩ rfl ?_ ?_ ?_
          · (repeat first | exact trivial | refine ⟨rfl, ?_⟩)
          · exact ⟨by simp [mergeN]; try assumption, by (try dsimp only); omega⟩
          · (refine Ent.imp ?_; repeat first | exact Imp.refl _ | exact Imp.nil _ | (apply Imp.pull; focus ((repeat first | exact Del.head _ _ | apply Del.tail); done)) | (apply Imp.row; focus ((repeat first | exact Del.head _ _ | apply Del.tail); done)) | apply Imp.drop)
      rintro ⟨v2, l2, post3⟩ g ⟨hI, hl2⟩
      try dsimp only
      refine T.seq ?_
      refine T.seq ?_
      refine T.drawL [] mixed (by repeat first | exact Calm.rt | apply Calm.t | apply Calm.b | apply Calm.l | apply Calm.ct) ?_
      refine TR.p 0 rfl (by kernel_rfl) (DP.mv (by conv => lhs; whnf)) ?_
      refine TR.p 1 rfl (by kernel_rfl) (DP.gtr (b := 0) rfl rfl) ?_
      refine TR.pB 2 rfl (by kernel_rfl) (DP.mv (by conv => lhs; whnf)) (fun hg95 => ?_) (fun hg95 => ?_)
      · obtain ⟨q, x0, rfl⟩ : ∃ q x0, pre = q ++ [x0] := by
          rcases List.eq_nil_or_concat pre with h | ⟨q, x0, h⟩
          · subst h; simp at hprl; omega
          · exact ⟨q, x0, by rw [h, List.concat_eq_append]⟩
        obtain rfl : i = q.length + 1 := by rw [← hprl]; simp
        have hx0 : (q ++ [x0] ++ (a, l2) :: post3)[q.length]? = some x0 := by simp
        have hx1' : (q ++ [x0] ++ (a, l2) :: post3)[q.length + 1]? = some (a, l2) := by simp
        have hx0b := hbq x0 (by simp)
        have hu0 := flat_elem spv_len hx0
        have hl4 : (q ++ [x0] ++ (a, l2) :: post3).length = q.length + 1 + 1 + post3.length := by simp; omega
        have hp3 : post3.length ≤ post.length := by have h := mergeN_len a l post; rw [← hI] at h; exact h
        have h118 := spans_ln hx0
        have h126 := spans_ln hx1'
        refine TR.pon 3 rfl (by kernel_rfl) rfl (DP.mv (by conv => lhs; whnf)) ?_
        refine TR.pon 4 rfl (by kernel_rfl) rfl (DP.nck rfl) ?_
        refine TR.pon 5 rfl (by kernel_rfl) rfl (DP.fa 1 rfl Try.underlying78 rfl rfl sz36) ?_
        refine TR.don 6 rfl (by kernel_rfl) (by kernel_rfl) (by (refine Ent.imp ?_; repeat first | exact Imp.refl _ | exact Imp.nil _ | (apply Imp.pull; focus ((repeat first | exact Del.head _ _ | apply Del.tail); done)) | (apply Imp.row; focus ((repeat first | exact Del.head _ _ | apply Del.tail); done)) | apply Imp.drop)) rfl (D.ldR rfl pl36 (by (repeat first | exact LMem.head _ _ | apply LMem.tail)) (by rfl)) ?_
        refine TR.pon 7 rfl (by kernel_rfl) rfl (DP.mv (by conv => lhs; whnf)) ?_
        refine TR.pon 8 rfl (by kernel_rfl) rfl (DP.to (v' := .int .i64 (q.length : Nat)) (DP.sub (b := 1) rfl rfl (l := 9223372036854775808) rfl (by omega) (by omega)) rfl) ?_
        refine TR.don 9 rfl (by kernel_rfl) (by kernel_rfl) (by (refine Ent.imp ?_; repeat first | exact Imp.refl _ | exact Imp.nil _ | (apply Imp.pull; focus ((repeat first | exact Del.head _ _ | apply Del.tail); done)) | (apply Imp.row; focus ((repeat first | exact Del.head _ _ | apply Del.tail); done)) | apply Imp.drop)) rfl (D.iasO (by conv => lhs; whnf) rfl Try.underlying36 sz42 (by (repeat first | exact LMem.head _ _ | apply LMem.tail)) (by omega)) ?_
        refine TR.don 10 rfl (by kernel_rfl) (by kernel_rfl) (by (refine Ent.imp ?_; repeat first | exact Imp.refl _ | exact Imp.nil _ | (apply Imp.pull; focus ((repeat first | exact Del.head _ _ | apply Del.tail); done)) | (apply Imp.row; focus ((repeat first | exact Del.head _ _ | apply Del.tail); done)) | apply Imp.drop)) rfl (D.ldOA (us := [.int .u32 x0.1, .int .u32 x0.2]) (by conv => lhs; whnf) ag42 sz42 (by (repeat first | exact LMem.head _ _ | apply LMem.tail)) (by omega) hu0 rfl) ?_
        refine TR.pon 12 rfl (by kernel_rfl) rfl (DP.fa 0 rfl Try.underlying42 rfl rfl sz30) ?_
        refine TR.don 13 rfl (by kernel_rfl) (by kernel_rfl) (by (refine Ent.imp ?_; repeat first | exact Imp.refl _ | exact Imp.nil _ | (apply Imp.pull; focus ((repeat first | exact Del.head _ _ | apply Del.tail); done)) | (apply Imp.row; focus ((repeat first | exact Del.head _ _ | apply Del.tail); done)) | apply Imp.drop)) rfl (D.ldR rfl pl30 (by (repeat first | exact LMem.head _ _ | apply LMem.tail)) (by rfl)) ?_
        refine TR.pon 14 rfl (by kernel_rfl) rfl (DP.cv rfl is30 Try.underlying31 (l := 18446744073709551616) rfl (by omega)) ?_
        refine TR.non 11 (by kernel_rfl) rfl rfl (N.callF (end_spec x0.1 x0.2 (by omega) (by omega)) Try.call46 ⟨rfl, trivial⟩ (by (repeat first | exact Pick.nil _ | (apply Pick.cons; focus ((repeat first | exact Del.head _ _ | apply Del.tail); done))))) ?_
        rintro u104 _ ⟨_, ⟨rfl, rfl⟩, rfl⟩
        try simp only [List.cons_append, List.nil_append]
        refine ⟨.inr (by (refine Ent.imp ?_; repeat first | exact Imp.refl _ | exact Imp.nil _ | (apply Imp.pull; focus ((repeat first | exact Del.head _ _ | apply Del.tail); done)) | (apply Imp.row; focus ((repeat first | exact Del.head _ _ | apply Del.tail); done)) | apply Imp.drop)), ?_⟩
        refine TR.pon 15 rfl (by kernel_rfl) rfl (DP.eql rfl rfl) ?_
        refine TR.p 16 rfl (by kernel_rfl) (DP.pkT rfl (by conv => lhs; whnf)) ?_
        refine TR.done (by kernel_rfl) ?_
        refine TQ.nn ?_
        refine T.condD rfl (fun hc3 => ?_) (fun hc3 => ?_)
        · refine T.seq ?_
          refine T.drawL [20] mixed (by repeat first | exact Calm.rt | apply Calm.t | apply Calm.b | apply Calm.l | apply Calm.ct) ?_
          refine TR.p 0 rfl (by kernel_rfl) (DP.mv (by conv => lhs; whnf)) ?_
          refine TR.p 1 rfl (by kernel_rfl) (DP.nck rfl) ?_
          refine TR.p 2 rfl (by kernel_rfl) (DP.fa 1 rfl Try.underlying78 rfl rfl sz36) ?_
          refine TR.d 3 rfl (by kernel_rfl) (by kernel_rfl) (by (refine Ent.imp ?_; repeat first | exact Imp.refl _ | exact Imp.nil _ | (apply Imp.pull; focus ((repeat first | exact Del.head _ _ | apply Del.tail); done)) | (apply Imp.row; focus ((repeat first | exact Del.head _ _ | apply Del.tail); done)) | apply Imp.drop)) (D.ldR rfl pl36 (by (repeat first | exact LMem.head _ _ | apply LMem.tail)) (by rfl)) ?_
          refine TR.p 4 rfl (by kernel_rfl) (DP.mv (by conv => lhs; whnf)) ?_
          refine TR.p 5 rfl (by kernel_rfl) (DP.to (v' := .int .i64 (q.length : Nat)) (DP.sub (b := 1) rfl rfl (l := 9223372036854775808) rfl (by omega) (by omega)) rfl) ?_
          refine TR.d 6 rfl (by kernel_rfl) (by kernel_rfl) (by (refine Ent.imp ?_; repeat first | exact Imp.refl _ | exact Imp.nil _ | (apply Imp.pull; focus ((repeat first | exact Del.head _ _ | apply Del.tail); done)) | (apply Imp.row; focus ((repeat first | exact Del.head _ _ | apply Del.tail); done)) | apply Imp.drop)) (D.iasO (by conv => lhs; whnf) rfl Try.underlying36 sz42 (by (repeat first | exact LMem.head _ _ | apply LMem.tail)) (by omega)) ?_
          refine TR.d 7 rfl (by kernel_rfl) (by kernel_rfl) (by (refine Ent.imp ?_; repeat first | exact Imp.refl _ | exact Imp.nil _ | (apply Imp.pull; focus ((repeat first | exact Del.head _ _ | apply Del.tail); done)) | (apply Imp.row; focus ((repeat first | exact Del.head _ _ | apply Del.tail); done)) | apply Imp.drop)) (D.faO 1 (by conv => lhs; whnf) Try.underlying42 rfl rfl sz30 (by (repeat first | exact LMem.head _ _ | apply LMem.tail)) (by omega)) ?_
          refine TR.d 8 rfl (by kernel_rfl) (by kernel_rfl) (by (refine Ent.imp ?_; repeat first | exact Imp.refl _ | exact Imp.nil _ | (apply Imp.pull; focus ((repeat first | exact Del.head _ _ | apply Del.tail); done)) | (apply Imp.row; focus ((repeat first | exact Del.head _ _ | apply Del.tail); done)) | apply Imp.drop)) (D.ldOF (by conv => lhs; whnf) pl30 (by (repeat first | exact LMem.head _ _ | apply LMem.tail)) h118 (by omega)) ?_
          refine TR.p 9 rfl (by kernel_rfl) (DP.mv (by conv => lhs; whnf)) ?_
          refine TR.p 10 rfl (by kernel_rfl) (DP.nck rfl) ?_
          refine TR.p 11 rfl (by kernel_rfl) (DP.fa 1 rfl Try.underlying78 rfl rfl sz36) ?_
          refine TR.d 12 rfl (by kernel_rfl) (by kernel_rfl) (by (refine Ent.imp ?_; repeat first | exact Imp.refl _ | exact Imp.nil _ | (apply Imp.pull; focus ((repeat first | exact Del.head _ _ | apply Del.tail); done)) | (apply Imp.row; focus ((repeat first | exact Del.head _ _ | apply Del.tail); done)) | apply Imp.drop)) (D.ldR rfl pl36 (by (repeat first | exact LMem.head _ _ | apply LMem.tail)) (by rfl)) ?_
          refine TR.p 13 rfl (by kernel_rfl) (DP.mv (by conv => lhs; whnf)) ?_
          refine TR.d 14 rfl (by kernel_rfl) (by kernel_rfl) (by (refine Ent.imp ?_; repeat first | exact Imp.refl _ | exact Imp.nil _ | (apply Imp.pull; focus ((repeat first | exact Del.head _ _ | apply Del.tail); done)) | (apply Imp.row; focus ((repeat first | exact Del.head _ _ | apply Del.tail); done)) | apply Imp.drop)) (D.iasO (by conv => lhs; whnf) rfl Try.underlying36 sz42 (by (repeat first | exact LMem.head _ _ | apply LMem.tail)) (by omega)) ?_
          refine TR.d 15 rfl (by kernel_rfl) (by kernel_rfl) (by (refine Ent.imp ?_; repeat first | exact Imp.refl _ | exact Imp.nil _ | (apply Imp.pull; focus ((repeat first | exact Del.head _ _ | apply Del.tail); done)) | (apply Imp.row; focus ((repeat first | exact Del.head _ _ | apply Del.tail); done)) | apply Imp.drop)) (D.faO 1 (by conv => lhs; whnf) Try.underlying42 rfl rfl sz30 (by (repeat first | exact LMem.head _ _ | apply LMem.tail)) (by omega)) ?_
          refine TR.d 16 rfl (by kernel_rfl) (by kernel_rfl) (by (refine Ent.imp ?_; repeat first | exact Imp.refl _ | exact Imp.nil _ | (apply Imp.pull; focus ((repeat first | exact Del.head _ _ | apply Del.tail); done)) | (apply Imp.row; focus ((repeat first | exact Del.head _ _ | apply Del.tail); done)) | apply Imp.drop)) (D.ldOF (by conv => lhs; whnf) pl30 (by (repeat first | exact LMem.head _ _ | apply LMem.tail)) h126 (by omega)) ?_
          refine TR.p 17 rfl (by kernel_rfl) (DP.add rfl rfl (l := 4294967296) rfl (by omega)) ?_
          refine TR.d 18 rfl (by kernel_rfl) (by kernel_rfl) (by (refine Ent.imp ?_; repeat first | exact Imp.refl _ | exact Imp.nil _ | (apply Imp.pull; focus ((repeat first | exact Del.head _ _ | apply Del.tail); done)) | (apply Imp.row; focus ((repeat first | exact Del.head _ _ | apply Del.tail); done)) | apply Imp.drop)) (D.iasO (by conv => lhs; whnf) rfl Try.underlying36 sz42 (by (repeat first | exact LMem.head _ _ | apply LMem.tail)) (by omega)) ?_
          refine TR.d 19 rfl (by kernel_rfl) (by kernel_rfl) (by (refine Ent.imp ?_; repeat first | exact Imp.refl _ | exact Imp.nil _ | (apply Imp.pull; focus ((repeat first | exact Del.head _ _ | apply Del.tail); done)) | (apply Imp.row; focus ((repeat first | exact Del.head _ _ | apply Del.tail); done)) | apply Imp.drop)) (D.faO 1 (by conv => lhs; whnf) Try.underlying42 rfl rfl sz30 (by (repeat first | exact LMem.head _ _ | apply LMem.tail)) (by omega)) ?_
          refine TR.n0 20 (by kernel_rfl) rfl (N.stOF (by conv => lhs; whnf) (by conv => lhs; whnf) sz30 (by (repeat first | exact Put.head _ _ _ | apply Put.tail)) (by omega) (by decide) rfl) ?_
          rintro _ _ ⟨rfl, rfl⟩
          rw [spans_set hx0, show (q ++ [x0] ++ (a, l2) :: post3).set q.length (x0.1, x0.2 + l2) = q ++ (x0.1, x0.2 + l2) :: (a, l2) :: post3 by simp, show (q ++ [x0] ++ (a, l2) :: post3).length = (q ++ (x0.1, x0.2 + l2) :: (a, l2) :: post3).length by simp]
          have hl5 : (q ++ (x0.1, x0.2 + l2) :: (a, l2) :: post3).length = q.length + 1 + 1 + post3.length := by rw [← hl4]; simp
          refine ⟨.inl rfl, ?_⟩
          refine TR.done (by kernel_rfl) ?_
          refine TQ.nn ?_
          refine T.reg ?_
          refine TO.p (DP.mv (by conv => lhs; whnf)) ?_
          refine TO.p (DP.mv (by conv => lhs; whnf)) ?_
          refine TO.p (DP.nck rfl) ?_
          refine TO.p (DP.fa 1 rfl Try.underlying78 rfl rfl sz36) ?_
          refine TO.d (D.ldR rfl pl36 (by (repeat first | exact LMem.head _ _ | apply LMem.tail)) (by rfl)) ?_
          refine TO.p (DP.mv (by conv => lhs; whnf)) ?_
          refine TO.p (DP.mv (by conv => lhs; whnf)) ?_
          refine TO.p (DP.add (b := 1) rfl rfl (l := 9223372036854775808) rfl (by omega)) ?_
          refine TO.n (N.callF (delete_spec (q.length + 1) v2 (q ++ (x0.1, x0.2 + l2) :: (a, l2) :: post3) (by omega) (by omega)) Try.call47 ⟨rfl, rfl, rfl, trivial⟩ (by (repeat first | exact Pick.nil _ | (apply Pick.cons; focus ((repeat first | exact Del.head _ _ | apply Del.tail); done))))) ?_
          rintro u138 _ ⟨_, rfl, rfl⟩
          try simp only [List.cons_append, List.nil_append]
          rw [show (q ++ (x0.1, x0.2 + l2) :: (a, l2) :: post3).take (q.length + 1) ++ (q ++ (x0.1, x0.2 + l2) :: (a, l2) :: post3).drop (q.length + 1 + 1) = q ++ (x0.1, x0.2 + l2) :: post3 by exact del_next _ _ _ _]
          refine TO.p (DP.nck rfl) ?_
          refine TO.p (DP.fa 1 rfl Try.underlying78 rfl rfl sz36) ?_
          refine TO.n0 (N.stS rfl (by conv => lhs; whnf) sz36 (by (repeat first | exact LMem.head _ _ | apply LMem.tail)) (by (repeat first | exact Put.head _ _ _ | apply Put.tail)) (by simp)) ?_
          rintro _ _ ⟨rfl, rfl⟩
          refine TO.nil ?_
          refine TQ.nn ?_
          refine T.seq ?_
          refine T.reg ?_
          refine TO.p (DP.as (by conv => lhs; whnf)) ?_
          refine TO.nil ?_
          refine TQ.nn ?_
          refine T.ret ?_
          refine TQ.ret (vs := [.int .i64 0]) (L' := [row 78 p [.slice (some ⟨b, 0, none⟩) bs.length bs.length, u138], row 5 b (bs.map byteV), sl 42 2 u138 _ _]) rfl ⟨rfl, rfl⟩ ?_ (by (refine Ent.imp ?_; repeat first | exact Imp.refl _ | exact Imp.nil _ | (apply Imp.pull; focus ((repeat first | exact Del.head _ _ | apply Del.tail); done)) | (apply Imp.row; focus ((repeat first | exact Del.head _ _ | apply Del.tail); done)) | apply Imp.drop))
          exact ⟨u138, _, _, rfl, hss, hpre, hpost, by rw [← hI]; rw [mergeP_snoc, if_pos hc3]⟩
        · refine T.skip ?_
          refine TQ.nn ?_
          refine T.seq ?_
          refine T.reg ?_
          refine TO.p (DP.as (by conv => lhs; whnf)) ?_
          refine TO.nil ?_
          refine TQ.nn ?_
          refine T.ret ?_
          refine TQ.ret (vs := [.int .i64 0]) (L' := [row 78 p [.slice (some ⟨b, 0, none⟩) bs.length bs.length, v2], row 5 b (bs.map byteV), sl 42 2 v2 _ _]) rfl ⟨rfl, rfl⟩ ?_ (by (refine Ent.imp ?_; repeat first | exact Imp.refl _ | exact Imp.nil _ | (apply Imp.pull; focus ((repeat first | exact Del.head _ _ | apply Del.tail); done)) | (apply Imp.row; focus ((repeat first | exact Del.head _ _ | apply Del.tail); done)) | apply Imp.drop))
          exact ⟨v2, _, _, rfl, hss, hpre, hpost, by rw [← hI]; rw [mergeP_snoc, if_neg hc3]⟩
      · obtain rfl : pre = [] := List.eq_nil_of_length_eq_zero (by omega)
        refine TR.off 3 rfl (by kernel_rfl) rfl rfl ?_
        refine TR.off 4 rfl (by kernel_rfl) rfl rfl ?_
        refine TR.off 5 rfl (by kernel_rfl) rfl rfl ?_
        refine TR.off 6 rfl (by kernel_rfl) rfl rfl ?_
        refine TR.off 7 rfl (by kernel_rfl) rfl rfl ?_
        refine TR.off 8 rfl (by kernel_rfl) rfl rfl ?_
        refine TR.off 9 rfl (by kernel_rfl) rfl rfl ?_
        refine TR.off 10 rfl (by kernel_rfl) rfl rfl ?_
        refine TR.off 11 rfl (by kernel_rfl) rfl rfl ?_
        refine TR.off 12 rfl (by kernel_rfl) rfl rfl ?_
        refine TR.off 13 rfl (by kernel_rfl) rfl rfl ?_
        refine TR.off 14 rfl (by kernel_rfl) rfl rfl ?_
        refine TR.off 15 rfl (by kernel_rfl) rfl rfl ?_
        refine TR.p 16 rfl (by kernel_rfl) (DP.pkF rfl (by conv => lhs; whnf)) ?_
        refine TR.done (by kernel_rfl) ?_
        refine TQ.nn ?_
        refine T.condF rfl ?_
        refine T.skip ?_
        refine TQ.nn ?_
        refine T.seq ?_
        refine T.reg ?_
        refine TO.p (DP.as (by conv => lhs; whnf)) ?_
        refine TO.nil ?_
        refine TQ.nn ?_
        refine T.ret ?_
        refine TQ.ret (vs := [.int .i64 0]) (L' := [row 78 p [.slice (some ⟨b, 0, none⟩) bs.length bs.length, v2], row 5 b (bs.map byteV), sl 42 2 v2 _ _]) rfl ⟨rfl, rfl⟩ ?_ (by (refine Ent.imp ?_; repeat first | exact Imp.refl _ | exact Imp.nil _ | (apply Imp.pull; focus ((repeat first | exact Del.head _ _ | apply Del.tail); done)) | (apply Imp.row; focus ((repeat first | exact Del.head _ _ | apply Del.tail); done)) | apply Imp.drop))
        exact ⟨v2, _, _, rfl, hss, hpre, hpost, by rw [← hI]; rfl⟩
end Go.Proofs.Ytpidkdkbgjnhlaa
