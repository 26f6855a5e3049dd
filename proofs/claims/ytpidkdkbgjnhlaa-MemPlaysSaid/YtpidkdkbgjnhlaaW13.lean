/- Lemmas for the proofs of this seat: no statement of the seat is claimed here. -/
import Derived.Test.YtpidkdkbgjnhlaaW12
set_option linter.all false
namespace Go.Proofs.Ytpidkdkbgjnhlaa
open Go Pw
set_option maxRecDepth 20000
set_option maxHeartbeats 4000000
theorem pc63 : placesOf Try.prog 63 = some [(0, 1), (1, 1)] := by kernel_rfl
theorem pl55 : plainT Try.prog 55 = true := by kernel_rfl
theorem sz55 : Try.prog.cellsOf 55 = 0 + 1 := by kernel_rfl
theorem zr63 : Try.prog.zeroOf 63 = some (.agg #[.slice none 0 0, .slice none 0 0]) := by kernel_rfl
theorem rlend_zero (r b lb at_ l : Nat) (bs : List UInt8) (lt : List Bool) (hbs : bs.length ≤ 1048576) (hlt : lt.length = bs.length) (ha : at_ < 4294967296) (hl : l < 4294967296) (h : l = 0) :
    Sat Try.prog 60 [.pointer (some ⟨r, 0, none⟩), .agg #[.int .u32 at_, .int .u32 l]] [row 63 r [.slice (some ⟨b, 0, none⟩) bs.length bs.length, .slice (some ⟨lb, 0, none⟩) lt.length lt.length], row 5 b (bs.map byteV), row 4 lb (lt.map boolV)] (fun u L' => u = .int .i64 10 ∧ L' = [row 63 r [.slice (some ⟨b, 0, none⟩) bs.length bs.length, .slice (some ⟨lb, 0, none⟩) lt.length lt.length], row 5 b (bs.map byteV), row 4 lb (lt.map boolV)]) := by
  refine Sat.enter Try.func60 rfl Try.ntmps60 rfl (fun c R => ?_)
  try simp only [List.cons_append, List.nil_append]
  refine T.seq ?_
  refine T.reg ?_
  refine TO.n (N.bxA rfl) ?_
  rintro _ _ ⟨b3, rfl, rfl⟩
  refine TO.p (DP.as (by conv => lhs; whnf)) ?_
  refine TO.nil ?_
  refine TQ.nn ?_
  refine T.seq ?_
  refine T.reg ?_
  refine TO.p (DP.mv (by conv => lhs; whnf)) ?_
  refine TO.d (D.ldRA rfl ag42 sz42 (by (repeat first | exact LMem.head _ _ | apply LMem.tail)) (by rfl)) ?_
  refine TO.n (N.callF (rturn_zero r b lb at_ l bs lt true 11 hbs hlt ha hl h) Try.call77 ⟨rfl, rfl, rfl, rfl, trivial⟩ (by (repeat first | exact Pick.nil _ | (apply Pick.cons; focus ((repeat first | exact Del.head _ _ | apply Del.tail); done))))) ?_
  rintro u7 _ ⟨_, ⟨rfl, rfl⟩, rfl⟩
  try simp only [List.cons_append, List.nil_append]
  refine TO.p (DP.as (by conv => lhs; whnf)) ?_
  refine TO.nil ?_
  refine TQ.nn ?_
  refine T.ret ?_
  refine TQ.ret (vs := [.int .i64 10]) (L' := [row 63 r [.slice (some ⟨b, 0, none⟩) bs.length bs.length, .slice (some ⟨lb, 0, none⟩) lt.length lt.length], row 5 b (bs.map byteV), row 4 lb (lt.map boolV)]) rfl ⟨rfl, rfl⟩ ⟨rfl, rfl⟩ (by (refine Ent.imp ?_; repeat first | exact Imp.refl _ | exact Imp.nil _ | (apply Imp.pull; focus ((repeat first | exact Del.head _ _ | apply Del.tail); done)) | (apply Imp.row; focus ((repeat first | exact Del.head _ _ | apply Del.tail); done)) | apply Imp.drop))

theorem rlend_out (r b lb at_ l : Nat) (bs : List UInt8) (lt : List Bool) (hbs : bs.length ≤ 1048576) (hlt : lt.length = bs.length) (ha : at_ < 4294967296) (hl : l < 4294967296) (h0 : 0 < l) (h : bs.length < at_ + l) :
    Sat Try.prog 60 [.pointer (some ⟨r, 0, none⟩), .agg #[.int .u32 at_, .int .u32 l]] [row 63 r [.slice (some ⟨b, 0, none⟩) bs.length bs.length, .slice (some ⟨lb, 0, none⟩) lt.length lt.length], row 5 b (bs.map byteV), row 4 lb (lt.map boolV)] (fun u L' => u = .int .i64 10 ∧ L' = [row 63 r [.slice (some ⟨b, 0, none⟩) bs.length bs.length, .slice (some ⟨lb, 0, none⟩) lt.length lt.length], row 5 b (bs.map byteV), row 4 lb (lt.map boolV)]) := by
  refine Sat.enter Try.func60 rfl Try.ntmps60 rfl (fun c R => ?_)
  try simp only [List.cons_append, List.nil_append]
  refine T.seq ?_
  refine T.reg ?_
  refine TO.n (N.bxA rfl) ?_
  rintro _ _ ⟨b3, rfl, rfl⟩
  refine TO.p (DP.as (by conv => lhs; whnf)) ?_
  refine TO.nil ?_
  refine TQ.nn ?_
  refine T.seq ?_
  refine T.reg ?_
  refine TO.p (DP.mv (by conv => lhs; whnf)) ?_
  refine TO.d (D.ldRA rfl ag42 sz42 (by (repeat first | exact LMem.head _ _ | apply LMem.tail)) (by rfl)) ?_
  refine TO.n (N.callF (rturn_out r b lb at_ l bs lt true 11 hbs hlt ha hl h0 h) Try.call77 ⟨rfl, rfl, rfl, rfl, trivial⟩ (by (repeat first | exact Pick.nil _ | (apply Pick.cons; focus ((repeat first | exact Del.head _ _ | apply Del.tail); done))))) ?_
  rintro u7 _ ⟨_, ⟨rfl, rfl⟩, rfl⟩
  try simp only [List.cons_append, List.nil_append]
  refine TO.p (DP.as (by conv => lhs; whnf)) ?_
  refine TO.nil ?_
  refine TQ.nn ?_
  refine T.ret ?_
  refine TQ.ret (vs := [.int .i64 10]) (L' := [row 63 r [.slice (some ⟨b, 0, none⟩) bs.length bs.length, .slice (some ⟨lb, 0, none⟩) lt.length lt.length], row 5 b (bs.map byteV), row 4 lb (lt.map boolV)]) rfl ⟨rfl, rfl⟩ ⟨rfl, rfl⟩ (by (refine Ent.imp ?_; repeat first | exact Imp.refl _ | exact Imp.nil _ | (apply Imp.pull; focus ((repeat first | exact Del.head _ _ | apply Del.tail); done)) | (apply Imp.row; focus ((repeat first | exact Del.head _ _ | apply Del.tail); done)) | apply Imp.drop))

theorem rlend_bad (r b lb at_ l : Nat) (bs : List UInt8) (lt : List Bool) (hbs : bs.length ≤ 1048576) (hlt : lt.length = bs.length) (ha : at_ < 4294967296) (hl : l < 4294967296) (h0 : 0 < l) (h : at_ + l ≤ bs.length) (hs : allB lt at_ l false = false) :
    Sat Try.prog 60 [.pointer (some ⟨r, 0, none⟩), .agg #[.int .u32 at_, .int .u32 l]] [row 63 r [.slice (some ⟨b, 0, none⟩) bs.length bs.length, .slice (some ⟨lb, 0, none⟩) lt.length lt.length], row 5 b (bs.map byteV), row 4 lb (lt.map boolV)] (fun u L' => u = .int .i64 11 ∧ L' = [row 63 r [.slice (some ⟨b, 0, none⟩) bs.length bs.length, .slice (some ⟨lb, 0, none⟩) lt.length lt.length], row 5 b (bs.map byteV), row 4 lb (lt.map boolV)]) := by
  refine Sat.enter Try.func60 rfl Try.ntmps60 rfl (fun c R => ?_)
  try simp only [List.cons_append, List.nil_append]
  refine T.seq ?_
  refine T.reg ?_
  refine TO.n (N.bxA rfl) ?_
  rintro _ _ ⟨b3, rfl, rfl⟩
  refine TO.p (DP.as (by conv => lhs; whnf)) ?_
  refine TO.nil ?_
  refine TQ.nn ?_
  refine T.seq ?_
  refine T.reg ?_
  refine TO.p (DP.mv (by conv => lhs; whnf)) ?_
  refine TO.d (D.ldRA rfl ag42 sz42 (by (repeat first | exact LMem.head _ _ | apply LMem.tail)) (by rfl)) ?_
  refine TO.n (N.callF (rturn_bad r b lb at_ l bs lt true 11 hbs hlt ha hl h0 h hs) Try.call77 ⟨rfl, rfl, rfl, rfl, trivial⟩ (by (repeat first | exact Pick.nil _ | (apply Pick.cons; focus ((repeat first | exact Del.head _ _ | apply Del.tail); done))))) ?_
  rintro u7 _ ⟨_, ⟨rfl, rfl⟩, rfl⟩
  try simp only [List.cons_append, List.nil_append]
  refine TO.p (DP.as (by conv => lhs; whnf)) ?_
  refine TO.nil ?_
  refine TQ.nn ?_
  refine T.ret ?_
  refine TQ.ret (vs := [.int .i64 11]) (L' := [row 63 r [.slice (some ⟨b, 0, none⟩) bs.length bs.length, .slice (some ⟨lb, 0, none⟩) lt.length lt.length], row 5 b (bs.map byteV), row 4 lb (lt.map boolV)]) rfl ⟨rfl, rfl⟩ ⟨rfl, rfl⟩ (by (refine Ent.imp ?_; repeat first | exact Imp.refl _ | exact Imp.nil _ | (apply Imp.pull; focus ((repeat first | exact Del.head _ _ | apply Del.tail); done)) | (apply Imp.row; focus ((repeat first | exact Del.head _ _ | apply Del.tail); done)) | apply Imp.drop))

theorem rlend_ok (r b lb at_ l : Nat) (bs : List UInt8) (lt : List Bool) (hbs : bs.length ≤ 1048576) (hlt : lt.length = bs.length) (ha : at_ < 4294967296) (hl : l < 4294967296) (h0 : 0 < l) (h : at_ + l ≤ bs.length) (hs : allB lt at_ l false = true) :
    Sat Try.prog 60 [.pointer (some ⟨r, 0, none⟩), .agg #[.int .u32 at_, .int .u32 l]] [row 63 r [.slice (some ⟨b, 0, none⟩) bs.length bs.length, .slice (some ⟨lb, 0, none⟩) lt.length lt.length], row 5 b (bs.map byteV), row 4 lb (lt.map boolV)] (fun u L' => u = .int .i64 0 ∧ L' = [row 63 r [.slice (some ⟨b, 0, none⟩) bs.length bs.length, .slice (some ⟨lb, 0, none⟩) lt.length lt.length], row 5 b ((bs).map byteV), row 4 lb ((fillB lt at_ l true).map boolV)]) := by
  refine Sat.enter Try.func60 rfl Try.ntmps60 rfl (fun c R => ?_)
  try simp only [List.cons_append, List.nil_append]
  refine T.seq ?_
  refine T.reg ?_
  refine TO.n (N.bxA rfl) ?_
  rintro _ _ ⟨b3, rfl, rfl⟩
  refine TO.p (DP.as (by conv => lhs; whnf)) ?_
  refine TO.nil ?_
  refine TQ.nn ?_
  refine T.seq ?_
  refine T.reg ?_
  refine TO.p (DP.mv (by conv => lhs; whnf)) ?_
  refine TO.d (D.ldRA rfl ag42 sz42 (by (repeat first | exact LMem.head _ _ | apply LMem.tail)) (by rfl)) ?_
  refine TO.n (N.callF (rturn_ok r b lb at_ l bs lt true 11 hbs hlt ha hl h0 h hs) Try.call77 ⟨rfl, rfl, rfl, rfl, trivial⟩ (by (repeat first | exact Pick.nil _ | (apply Pick.cons; focus ((repeat first | exact Del.head _ _ | apply Del.tail); done))))) ?_
  rintro u7 _ ⟨_, ⟨rfl, rfl⟩, rfl⟩
  try simp only [List.cons_append, List.nil_append]
  refine TO.p (DP.as (by conv => lhs; whnf)) ?_
  refine TO.nil ?_
  refine TQ.nn ?_
  refine T.ret ?_
  refine TQ.ret (vs := [.int .i64 0]) (L' := [row 63 r [.slice (some ⟨b, 0, none⟩) bs.length bs.length, .slice (some ⟨lb, 0, none⟩) lt.length lt.length], row 5 b ((bs).map byteV), row 4 lb ((fillB lt at_ l true).map boolV)]) rfl ⟨rfl, rfl⟩ ⟨rfl, rfl⟩ (by (refine Ent.imp ?_; repeat first | exact Imp.refl _ | exact Imp.nil _ | (apply Imp.pull; focus ((repeat first | exact Del.head _ _ | apply Del.tail); done)) | (apply Imp.row; focus ((repeat first | exact Del.head _ _ | apply Del.tail); done)) | apply Imp.drop))

theorem rback_zero (r b lb at_ l : Nat) (bs : List UInt8) (lt : List Bool) (hbs : bs.length ≤ 1048576) (hlt : lt.length = bs.length) (ha : at_ < 4294967296) (hl : l < 4294967296) (h : l = 0) :
    Sat Try.prog 61 [.pointer (some ⟨r, 0, none⟩), .agg #[.int .u32 at_, .int .u32 l]] [row 63 r [.slice (some ⟨b, 0, none⟩) bs.length bs.length, .slice (some ⟨lb, 0, none⟩) lt.length lt.length], row 5 b (bs.map byteV), row 4 lb (lt.map boolV)] (fun u L' => u = .int .i64 10 ∧ L' = [row 63 r [.slice (some ⟨b, 0, none⟩) bs.length bs.length, .slice (some ⟨lb, 0, none⟩) lt.length lt.length], row 5 b (bs.map byteV), row 4 lb (lt.map boolV)]) := by
  refine Sat.enter Try.func61 rfl Try.ntmps61 rfl (fun c R => ?_)
  try simp only [List.cons_append, List.nil_append]
  refine T.seq ?_
  refine T.reg ?_
  refine TO.n (N.bxA rfl) ?_
  rintro _ _ ⟨b3, rfl, rfl⟩
  refine TO.p (DP.as (by conv => lhs; whnf)) ?_
  refine TO.nil ?_
  refine TQ.nn ?_
  refine T.seq ?_
  refine T.reg ?_
  refine TO.p (DP.mv (by conv => lhs; whnf)) ?_
  refine TO.d (D.ldRA rfl ag42 sz42 (by (repeat first | exact LMem.head _ _ | apply LMem.tail)) (by rfl)) ?_
  refine TO.n (N.callF (rturn_zero r b lb at_ l bs lt false 12 hbs hlt ha hl h) Try.call77 ⟨rfl, rfl, rfl, rfl, trivial⟩ (by (repeat first | exact Pick.nil _ | (apply Pick.cons; focus ((repeat first | exact Del.head _ _ | apply Del.tail); done))))) ?_
  rintro u7 _ ⟨_, ⟨rfl, rfl⟩, rfl⟩
  try simp only [List.cons_append, List.nil_append]
  refine TO.p (DP.as (by conv => lhs; whnf)) ?_
  refine TO.nil ?_
  refine TQ.nn ?_
  refine T.ret ?_
  refine TQ.ret (vs := [.int .i64 10]) (L' := [row 63 r [.slice (some ⟨b, 0, none⟩) bs.length bs.length, .slice (some ⟨lb, 0, none⟩) lt.length lt.length], row 5 b (bs.map byteV), row 4 lb (lt.map boolV)]) rfl ⟨rfl, rfl⟩ ⟨rfl, rfl⟩ (by (refine Ent.imp ?_; repeat first | exact Imp.refl _ | exact Imp.nil _ | (apply Imp.pull; focus ((repeat first | exact Del.head _ _ | apply Del.tail); done)) | (apply Imp.row; focus ((repeat first | exact Del.head _ _ | apply Del.tail); done)) | apply Imp.drop))

theorem rback_out (r b lb at_ l : Nat) (bs : List UInt8) (lt : List Bool) (hbs : bs.length ≤ 1048576) (hlt : lt.length = bs.length) (ha : at_ < 4294967296) (hl : l < 4294967296) (h0 : 0 < l) (h : bs.length < at_ + l) :
    Sat Try.prog 61 [.pointer (some ⟨r, 0, none⟩), .agg #[.int .u32 at_, .int .u32 l]] [row 63 r [.slice (some ⟨b, 0, none⟩) bs.length bs.length, .slice (some ⟨lb, 0, none⟩) lt.length lt.length], row 5 b (bs.map byteV), row 4 lb (lt.map boolV)] (fun u L' => u = .int .i64 10 ∧ L' = [row 63 r [.slice (some ⟨b, 0, none⟩) bs.length bs.length, .slice (some ⟨lb, 0, none⟩) lt.length lt.length], row 5 b (bs.map byteV), row 4 lb (lt.map boolV)]) := by
  refine Sat.enter Try.func61 rfl Try.ntmps61 rfl (fun c R => ?_)
  try simp only [List.cons_append, List.nil_append]
  refine T.seq ?_
  refine T.reg ?_
  refine TO.n (N.bxA rfl) ?_
  rintro _ _ ⟨b3, rfl, rfl⟩
  refine TO.p (DP.as (by conv => lhs; whnf)) ?_
  refine TO.nil ?_
  refine TQ.nn ?_
  refine T.seq ?_
  refine T.reg ?_
  refine TO.p (DP.mv (by conv => lhs; whnf)) ?_
  refine TO.d (D.ldRA rfl ag42 sz42 (by (repeat first | exact LMem.head _ _ | apply LMem.tail)) (by rfl)) ?_
  refine TO.n (N.callF (rturn_out r b lb at_ l bs lt false 12 hbs hlt ha hl h0 h) Try.call77 ⟨rfl, rfl, rfl, rfl, trivial⟩ (by (repeat first | exact Pick.nil _ | (apply Pick.cons; focus ((repeat first | exact Del.head _ _ | apply Del.tail); done))))) ?_
  rintro u7 _ ⟨_, ⟨rfl, rfl⟩, rfl⟩
  try simp only [List.cons_append, List.nil_append]
  refine TO.p (DP.as (by conv => lhs; whnf)) ?_
  refine TO.nil ?_
  refine TQ.nn ?_
  refine T.ret ?_
  refine TQ.ret (vs := [.int .i64 10]) (L' := [row 63 r [.slice (some ⟨b, 0, none⟩) bs.length bs.length, .slice (some ⟨lb, 0, none⟩) lt.length lt.length], row 5 b (bs.map byteV), row 4 lb (lt.map boolV)]) rfl ⟨rfl, rfl⟩ ⟨rfl, rfl⟩ (by (refine Ent.imp ?_; repeat first | exact Imp.refl _ | exact Imp.nil _ | (apply Imp.pull; focus ((repeat first | exact Del.head _ _ | apply Del.tail); done)) | (apply Imp.row; focus ((repeat first | exact Del.head _ _ | apply Del.tail); done)) | apply Imp.drop))

theorem rback_bad (r b lb at_ l : Nat) (bs : List UInt8) (lt : List Bool) (hbs : bs.length ≤ 1048576) (hlt : lt.length = bs.length) (ha : at_ < 4294967296) (hl : l < 4294967296) (h0 : 0 < l) (h : at_ + l ≤ bs.length) (hs : allB lt at_ l true = false) :
    Sat Try.prog 61 [.pointer (some ⟨r, 0, none⟩), .agg #[.int .u32 at_, .int .u32 l]] [row 63 r [.slice (some ⟨b, 0, none⟩) bs.length bs.length, .slice (some ⟨lb, 0, none⟩) lt.length lt.length], row 5 b (bs.map byteV), row 4 lb (lt.map boolV)] (fun u L' => u = .int .i64 12 ∧ L' = [row 63 r [.slice (some ⟨b, 0, none⟩) bs.length bs.length, .slice (some ⟨lb, 0, none⟩) lt.length lt.length], row 5 b (bs.map byteV), row 4 lb (lt.map boolV)]) := by
  refine Sat.enter Try.func61 rfl Try.ntmps61 rfl (fun c R => ?_)
  try simp only [List.cons_append, List.nil_append]
  refine T.seq ?_
  refine T.reg ?_
  refine TO.n (N.bxA rfl) ?_
  rintro _ _ ⟨b3, rfl, rfl⟩
  refine TO.p (DP.as (by conv => lhs; whnf)) ?_
  refine TO.nil ?_
  refine TQ.nn ?_
  refine T.seq ?_
  refine T.reg ?_
  refine TO.p (DP.mv (by conv => lhs; whnf)) ?_
  refine TO.d (D.ldRA rfl ag42 sz42 (by (repeat first | exact LMem.head _ _ | apply LMem.tail)) (by rfl)) ?_
  refine TO.n (N.callF (rturn_bad r b lb at_ l bs lt false 12 hbs hlt ha hl h0 h hs) Try.call77 ⟨rfl, rfl, rfl, rfl, trivial⟩ (by (repeat first | exact Pick.nil _ | (apply Pick.cons; focus ((repeat first | exact Del.head _ _ | apply Del.tail); done))))) ?_
  rintro u7 _ ⟨_, ⟨rfl, rfl⟩, rfl⟩
  try simp only [List.cons_append, List.nil_append]
  refine TO.p (DP.as (by conv => lhs; whnf)) ?_
  refine TO.nil ?_
  refine TQ.nn ?_
  refine T.ret ?_
  refine TQ.ret (vs := [.int .i64 12]) (L' := [row 63 r [.slice (some ⟨b, 0, none⟩) bs.length bs.length, .slice (some ⟨lb, 0, none⟩) lt.length lt.length], row 5 b (bs.map byteV), row 4 lb (lt.map boolV)]) rfl ⟨rfl, rfl⟩ ⟨rfl, rfl⟩ (by (refine Ent.imp ?_; repeat first | exact Imp.refl _ | exact Imp.nil _ | (apply Imp.pull; focus ((repeat first | exact Del.head _ _ | apply Del.tail); done)) | (apply Imp.row; focus ((repeat first | exact Del.head _ _ | apply Del.tail); done)) | apply Imp.drop))

theorem rback_ok (r b lb at_ l : Nat) (bs : List UInt8) (lt : List Bool) (hbs : bs.length ≤ 1048576) (hlt : lt.length = bs.length) (ha : at_ < 4294967296) (hl : l < 4294967296) (h0 : 0 < l) (h : at_ + l ≤ bs.length) (hs : allB lt at_ l true = true) :
    Sat Try.prog 61 [.pointer (some ⟨r, 0, none⟩), .agg #[.int .u32 at_, .int .u32 l]] [row 63 r [.slice (some ⟨b, 0, none⟩) bs.length bs.length, .slice (some ⟨lb, 0, none⟩) lt.length lt.length], row 5 b (bs.map byteV), row 4 lb (lt.map boolV)] (fun u L' => u = .int .i64 0 ∧ L' = [row 63 r [.slice (some ⟨b, 0, none⟩) bs.length bs.length, .slice (some ⟨lb, 0, none⟩) lt.length lt.length], row 5 b ((bs).map byteV), row 4 lb ((fillB lt at_ l false).map boolV)]) := by
  refine Sat.enter Try.func61 rfl Try.ntmps61 rfl (fun c R => ?_)
  try simp only [List.cons_append, List.nil_append]
  refine T.seq ?_
  refine T.reg ?_
  refine TO.n (N.bxA rfl) ?_
  rintro _ _ ⟨b3, rfl, rfl⟩
  refine TO.p (DP.as (by conv => lhs; whnf)) ?_
  refine TO.nil ?_
  refine TQ.nn ?_
  refine T.seq ?_
  refine T.reg ?_
  refine TO.p (DP.mv (by conv => lhs; whnf)) ?_
  refine TO.d (D.ldRA rfl ag42 sz42 (by (repeat first | exact LMem.head _ _ | apply LMem.tail)) (by rfl)) ?_
  refine TO.n (N.callF (rturn_ok r b lb at_ l bs lt false 12 hbs hlt ha hl h0 h hs) Try.call77 ⟨rfl, rfl, rfl, rfl, trivial⟩ (by (repeat first | exact Pick.nil _ | (apply Pick.cons; focus ((repeat first | exact Del.head _ _ | apply Del.tail); done))))) ?_
  rintro u7 _ ⟨_, ⟨rfl, rfl⟩, rfl⟩
  try simp only [List.cons_append, List.nil_append]
  refine TO.p (DP.as (by conv => lhs; whnf)) ?_
  refine TO.nil ?_
  refine TQ.nn ?_
  refine T.ret ?_
  refine TQ.ret (vs := [.int .i64 0]) (L' := [row 63 r [.slice (some ⟨b, 0, none⟩) bs.length bs.length, .slice (some ⟨lb, 0, none⟩) lt.length lt.length], row 5 b ((bs).map byteV), row 4 lb ((fillB lt at_ l false).map boolV)]) rfl ⟨rfl, rfl⟩ ⟨rfl, rfl⟩ (by (refine Ent.imp ?_; repeat first | exact Imp.refl _ | exact Imp.nil _ | (apply Imp.pull; focus ((repeat first | exact Del.head _ _ | apply Del.tail); done)) | (apply Imp.row; focus ((repeat first | exact Del.head _ _ | apply Del.tail); done)) | apply Imp.drop))

theorem rwrite_out (r b lb at_ : Nat) (bs : List UInt8) (lt : List Bool) (s : List UInt8) (hbs : bs.length ≤ 1048576) (hlt : lt.length = bs.length) (ha : at_ < 4294967296) (h : bs.length < at_ + s.length) :
    Sat Try.prog 58 [.pointer (some ⟨r, 0, none⟩), .int .u32 at_, str s] [row 63 r [.slice (some ⟨b, 0, none⟩) bs.length bs.length, .slice (some ⟨lb, 0, none⟩) lt.length lt.length], row 5 b (bs.map byteV), row 4 lb (lt.map boolV)] (fun u L' => u = .int .i64 10 ∧ L' = [row 63 r [.slice (some ⟨b, 0, none⟩) bs.length bs.length, .slice (some ⟨lb, 0, none⟩) lt.length lt.length], row 5 b (bs.map byteV), row 4 lb (lt.map boolV)]) := by
  refine Sat.enter Try.func58 rfl Try.ntmps58 rfl (fun c R => ?_)
  try simp only [List.cons_append, List.nil_append]
  refine T.seq ?_
  refine T.reg ?_
  refine TO.p (DP.as (by conv => lhs; whnf)) ?_
  refine TO.nil ?_
  refine TQ.nn ?_
  refine T.seq ?_
  refine T.reg ?_
  refine TO.p (DP.mv (by conv => lhs; whnf)) ?_
  refine TO.p (DP.mv (by conv => lhs; whnf)) ?_
  refine TO.p (DP.mv (by conv => lhs; whnf)) ?_
  refine TO.n (N.callF (rput_out r b lb at_ bs lt s false 11 hbs hlt ha h) Try.call76 ⟨rfl, rfl, rfl, rfl, rfl, trivial⟩ (by (repeat first | exact Pick.nil _ | (apply Pick.cons; focus ((repeat first | exact Del.head _ _ | apply Del.tail); done))))) ?_
  rintro u10 _ ⟨_, ⟨rfl, rfl⟩, rfl⟩
  try simp only [List.cons_append, List.nil_append]
  refine TO.p (DP.as (by conv => lhs; whnf)) ?_
  refine TO.nil ?_
  refine TQ.nn ?_
  refine T.ret ?_
  refine TQ.ret (vs := [.int .i64 10]) (L' := [row 63 r [.slice (some ⟨b, 0, none⟩) bs.length bs.length, .slice (some ⟨lb, 0, none⟩) lt.length lt.length], row 5 b (bs.map byteV), row 4 lb (lt.map boolV)]) rfl ⟨rfl, rfl⟩ ⟨rfl, rfl⟩ (by (refine Ent.imp ?_; repeat first | exact Imp.refl _ | exact Imp.nil _ | (apply Imp.pull; focus ((repeat first | exact Del.head _ _ | apply Del.tail); done)) | (apply Imp.row; focus ((repeat first | exact Del.head _ _ | apply Del.tail); done)) | apply Imp.drop))

theorem rwrite_bad (r b lb at_ : Nat) (bs : List UInt8) (lt : List Bool) (s : List UInt8) (hbs : bs.length ≤ 1048576) (hlt : lt.length = bs.length) (ha : at_ < 4294967296) (h : at_ + s.length ≤ bs.length) (hs : allB lt at_ s.length false = false) :
    Sat Try.prog 58 [.pointer (some ⟨r, 0, none⟩), .int .u32 at_, str s] [row 63 r [.slice (some ⟨b, 0, none⟩) bs.length bs.length, .slice (some ⟨lb, 0, none⟩) lt.length lt.length], row 5 b (bs.map byteV), row 4 lb (lt.map boolV)] (fun u L' => u = .int .i64 11 ∧ L' = [row 63 r [.slice (some ⟨b, 0, none⟩) bs.length bs.length, .slice (some ⟨lb, 0, none⟩) lt.length lt.length], row 5 b (bs.map byteV), row 4 lb (lt.map boolV)]) := by
  refine Sat.enter Try.func58 rfl Try.ntmps58 rfl (fun c R => ?_)
  try simp only [List.cons_append, List.nil_append]
  refine T.seq ?_
  refine T.reg ?_
  refine TO.p (DP.as (by conv => lhs; whnf)) ?_
  refine TO.nil ?_
  refine TQ.nn ?_
  refine T.seq ?_
  refine T.reg ?_
  refine TO.p (DP.mv (by conv => lhs; whnf)) ?_
  refine TO.p (DP.mv (by conv => lhs; whnf)) ?_
  refine TO.p (DP.mv (by conv => lhs; whnf)) ?_
  refine TO.n (N.callF (rput_bad r b lb at_ bs lt s false 11 hbs hlt ha h hs) Try.call76 ⟨rfl, rfl, rfl, rfl, rfl, trivial⟩ (by (repeat first | exact Pick.nil _ | (apply Pick.cons; focus ((repeat first | exact Del.head _ _ | apply Del.tail); done))))) ?_
  rintro u10 _ ⟨_, ⟨rfl, rfl⟩, rfl⟩
  try simp only [List.cons_append, List.nil_append]
  refine TO.p (DP.as (by conv => lhs; whnf)) ?_
  refine TO.nil ?_
  refine TQ.nn ?_
  refine T.ret ?_
  refine TQ.ret (vs := [.int .i64 11]) (L' := [row 63 r [.slice (some ⟨b, 0, none⟩) bs.length bs.length, .slice (some ⟨lb, 0, none⟩) lt.length lt.length], row 5 b (bs.map byteV), row 4 lb (lt.map boolV)]) rfl ⟨rfl, rfl⟩ ⟨rfl, rfl⟩ (by (refine Ent.imp ?_; repeat first | exact Imp.refl _ | exact Imp.nil _ | (apply Imp.pull; focus ((repeat first | exact Del.head _ _ | apply Del.tail); done)) | (apply Imp.row; focus ((repeat first | exact Del.head _ _ | apply Del.tail); done)) | apply Imp.drop))

theorem rwrite_ok (r b lb at_ : Nat) (bs : List UInt8) (lt : List Bool) (s : List UInt8) (hbs : bs.length ≤ 1048576) (hlt : lt.length = bs.length) (ha : at_ < 4294967296) (h : at_ + s.length ≤ bs.length) (hs : allB lt at_ s.length false = true) :
    Sat Try.prog 58 [.pointer (some ⟨r, 0, none⟩), .int .u32 at_, str s] [row 63 r [.slice (some ⟨b, 0, none⟩) bs.length bs.length, .slice (some ⟨lb, 0, none⟩) lt.length lt.length], row 5 b (bs.map byteV), row 4 lb (lt.map boolV)] (fun u L' => u = .int .i64 0 ∧ L' = [row 63 r [.slice (some ⟨b, 0, none⟩) bs.length bs.length, .slice (some ⟨lb, 0, none⟩) lt.length lt.length], row 5 b ((putB bs at_ s).map byteV), row 4 lb ((lt).map boolV)]) := by
  refine Sat.enter Try.func58 rfl Try.ntmps58 rfl (fun c R => ?_)
  try simp only [List.cons_append, List.nil_append]
  refine T.seq ?_
  refine T.reg ?_
  refine TO.p (DP.as (by conv => lhs; whnf)) ?_
  refine TO.nil ?_
  refine TQ.nn ?_
  refine T.seq ?_
  refine T.reg ?_
  refine TO.p (DP.mv (by conv => lhs; whnf)) ?_
  refine TO.p (DP.mv (by conv => lhs; whnf)) ?_
  refine TO.p (DP.mv (by conv => lhs; whnf)) ?_
  refine TO.n (N.callF (rput_ok r b lb at_ bs lt s false 11 hbs hlt ha h hs) Try.call76 ⟨rfl, rfl, rfl, rfl, rfl, trivial⟩ (by (repeat first | exact Pick.nil _ | (apply Pick.cons; focus ((repeat first | exact Del.head _ _ | apply Del.tail); done))))) ?_
  rintro u10 _ ⟨_, ⟨rfl, rfl⟩, rfl⟩
  try simp only [List.cons_append, List.nil_append]
  refine TO.p (DP.as (by conv => lhs; whnf)) ?_
  refine TO.nil ?_
  refine TQ.nn ?_
  refine T.ret ?_
  refine TQ.ret (vs := [.int .i64 0]) (L' := [row 63 r [.slice (some ⟨b, 0, none⟩) bs.length bs.length, .slice (some ⟨lb, 0, none⟩) lt.length lt.length], row 5 b ((putB bs at_ s).map byteV), row 4 lb ((lt).map boolV)]) rfl ⟨rfl, rfl⟩ ⟨rfl, rfl⟩ (by (refine Ent.imp ?_; repeat first | exact Imp.refl _ | exact Imp.nil _ | (apply Imp.pull; focus ((repeat first | exact Del.head _ _ | apply Del.tail); done)) | (apply Imp.row; focus ((repeat first | exact Del.head _ _ | apply Del.tail); done)) | apply Imp.drop))

theorem rdevice_out (r b lb at_ : Nat) (bs : List UInt8) (lt : List Bool) (s : List UInt8) (hbs : bs.length ≤ 1048576) (hlt : lt.length = bs.length) (ha : at_ < 4294967296) (h : bs.length < at_ + s.length) :
    Sat Try.prog 62 [.pointer (some ⟨r, 0, none⟩), .int .u32 at_, str s] [row 63 r [.slice (some ⟨b, 0, none⟩) bs.length bs.length, .slice (some ⟨lb, 0, none⟩) lt.length lt.length], row 5 b (bs.map byteV), row 4 lb (lt.map boolV)] (fun u L' => u = .int .i64 10 ∧ L' = [row 63 r [.slice (some ⟨b, 0, none⟩) bs.length bs.length, .slice (some ⟨lb, 0, none⟩) lt.length lt.length], row 5 b (bs.map byteV), row 4 lb (lt.map boolV)]) := by
  refine Sat.enter Try.func62 rfl Try.ntmps62 rfl (fun c R => ?_)
  try simp only [List.cons_append, List.nil_append]
  refine T.seq ?_
  refine T.reg ?_
  refine TO.p (DP.as (by conv => lhs; whnf)) ?_
  refine TO.nil ?_
  refine TQ.nn ?_
  refine T.seq ?_
  refine T.reg ?_
  refine TO.p (DP.mv (by conv => lhs; whnf)) ?_
  refine TO.p (DP.mv (by conv => lhs; whnf)) ?_
  refine TO.p (DP.mv (by conv => lhs; whnf)) ?_
  refine TO.n (N.callF (rput_out r b lb at_ bs lt s true 12 hbs hlt ha h) Try.call76 ⟨rfl, rfl, rfl, rfl, rfl, trivial⟩ (by (repeat first | exact Pick.nil _ | (apply Pick.cons; focus ((repeat first | exact Del.head _ _ | apply Del.tail); done))))) ?_
  rintro u10 _ ⟨_, ⟨rfl, rfl⟩, rfl⟩
  try simp only [List.cons_append, List.nil_append]
  refine TO.p (DP.as (by conv => lhs; whnf)) ?_
  refine TO.nil ?_
  refine TQ.nn ?_
  refine T.ret ?_
  refine TQ.ret (vs := [.int .i64 10]) (L' := [row 63 r [.slice (some ⟨b, 0, none⟩) bs.length bs.length, .slice (some ⟨lb, 0, none⟩) lt.length lt.length], row 5 b (bs.map byteV), row 4 lb (lt.map boolV)]) rfl ⟨rfl, rfl⟩ ⟨rfl, rfl⟩ (by (refine Ent.imp ?_; repeat first | exact Imp.refl _ | exact Imp.nil _ | (apply Imp.pull; focus ((repeat first | exact Del.head _ _ | apply Del.tail); done)) | (apply Imp.row; focus ((repeat first | exact Del.head _ _ | apply Del.tail); done)) | apply Imp.drop))

theorem rdevice_bad (r b lb at_ : Nat) (bs : List UInt8) (lt : List Bool) (s : List UInt8) (hbs : bs.length ≤ 1048576) (hlt : lt.length = bs.length) (ha : at_ < 4294967296) (h : at_ + s.length ≤ bs.length) (hs : allB lt at_ s.length true = false) :
    Sat Try.prog 62 [.pointer (some ⟨r, 0, none⟩), .int .u32 at_, str s] [row 63 r [.slice (some ⟨b, 0, none⟩) bs.length bs.length, .slice (some ⟨lb, 0, none⟩) lt.length lt.length], row 5 b (bs.map byteV), row 4 lb (lt.map boolV)] (fun u L' => u = .int .i64 12 ∧ L' = [row 63 r [.slice (some ⟨b, 0, none⟩) bs.length bs.length, .slice (some ⟨lb, 0, none⟩) lt.length lt.length], row 5 b (bs.map byteV), row 4 lb (lt.map boolV)]) := by
  refine Sat.enter Try.func62 rfl Try.ntmps62 rfl (fun c R => ?_)
  try simp only [List.cons_append, List.nil_append]
  refine T.seq ?_
  refine T.reg ?_
  refine TO.p (DP.as (by conv => lhs; whnf)) ?_
  refine TO.nil ?_
  refine TQ.nn ?_
  refine T.seq ?_
  refine T.reg ?_
  refine TO.p (DP.mv (by conv => lhs; whnf)) ?_
  refine TO.p (DP.mv (by conv => lhs; whnf)) ?_
  refine TO.p (DP.mv (by conv => lhs; whnf)) ?_
  refine TO.n (N.callF (rput_bad r b lb at_ bs lt s true 12 hbs hlt ha h hs) Try.call76 ⟨rfl, rfl, rfl, rfl, rfl, trivial⟩ (by (repeat first | exact Pick.nil _ | (apply Pick.cons; focus ((repeat first | exact Del.head _ _ | apply Del.tail); done))))) ?_
  rintro u10 _ ⟨_, ⟨rfl, rfl⟩, rfl⟩
  try simp only [List.cons_append, List.nil_append]
  refine TO.p (DP.as (by conv => lhs; whnf)) ?_
  refine TO.nil ?_
  refine TQ.nn ?_
  refine T.ret ?_
  refine TQ.ret (vs := [.int .i64 12]) (L' := [row 63 r [.slice (some ⟨b, 0, none⟩) bs.length bs.length, .slice (some ⟨lb, 0, none⟩) lt.length lt.length], row 5 b (bs.map byteV), row 4 lb (lt.map boolV)]) rfl ⟨rfl, rfl⟩ ⟨rfl, rfl⟩ (by (refine Ent.imp ?_; repeat first | exact Imp.refl _ | exact Imp.nil _ | (apply Imp.pull; focus ((repeat first | exact Del.head _ _ | apply Del.tail); done)) | (apply Imp.row; focus ((repeat first | exact Del.head _ _ | apply Del.tail); done)) | apply Imp.drop))

theorem rdevice_ok (r b lb at_ : Nat) (bs : List UInt8) (lt : List Bool) (s : List UInt8) (hbs : bs.length ≤ 1048576) (hlt : lt.length = bs.length) (ha : at_ < 4294967296) (h : at_ + s.length ≤ bs.length) (hs : allB lt at_ s.length true = true) :
    Sat Try.prog 62 [.pointer (some ⟨r, 0, none⟩), .int .u32 at_, str s] [row 63 r [.slice (some ⟨b, 0, none⟩) bs.length bs.length, .slice (some ⟨lb, 0, none⟩) lt.length lt.length], row 5 b (bs.map byteV), row 4 lb (lt.map boolV)] (fun u L' => u = .int .i64 0 ∧ L' = [row 63 r [.slice (some ⟨b, 0, none⟩) bs.length bs.length, .slice (some ⟨lb, 0, none⟩) lt.length lt.length], row 5 b ((putB bs at_ s).map byteV), row 4 lb ((lt).map boolV)]) := by
  refine Sat.enter Try.func62 rfl Try.ntmps62 rfl (fun c R => ?_)
  try simp only [List.cons_append, List.nil_append]
  refine T.seq ?_
  refine T.reg ?_
  refine TO.p (DP.as (by conv => lhs; whnf)) ?_
  refine TO.nil ?_
  refine TQ.nn ?_
  refine T.seq ?_
  refine T.reg ?_
  refine TO.p (DP.mv (by conv => lhs; whnf)) ?_
  refine TO.p (DP.mv (by conv => lhs; whnf)) ?_
  refine TO.p (DP.mv (by conv => lhs; whnf)) ?_
  refine TO.n (N.callF (rput_ok r b lb at_ bs lt s true 12 hbs hlt ha h hs) Try.call76 ⟨rfl, rfl, rfl, rfl, rfl, trivial⟩ (by (repeat first | exact Pick.nil _ | (apply Pick.cons; focus ((repeat first | exact Del.head _ _ | apply Del.tail); done))))) ?_
  rintro u10 _ ⟨_, ⟨rfl, rfl⟩, rfl⟩
  try simp only [List.cons_append, List.nil_append]
  refine TO.p (DP.as (by conv => lhs; whnf)) ?_
  refine TO.nil ?_
  refine TQ.nn ?_
  refine T.ret ?_
  refine TQ.ret (vs := [.int .i64 0]) (L' := [row 63 r [.slice (some ⟨b, 0, none⟩) bs.length bs.length, .slice (some ⟨lb, 0, none⟩) lt.length lt.length], row 5 b ((putB bs at_ s).map byteV), row 4 lb ((lt).map boolV)]) rfl ⟨rfl, rfl⟩ ⟨rfl, rfl⟩ (by (refine Ent.imp ?_; repeat first | exact Imp.refl _ | exact Imp.nil _ | (apply Imp.pull; focus ((repeat first | exact Del.head _ _ | apply Del.tail); done)) | (apply Imp.row; focus ((repeat first | exact Del.head _ _ | apply Del.tail); done)) | apply Imp.drop))

theorem rnew_bad (n : Int) (hn : n < 1 ∨ 1048576 < n) :
    Sat Try.prog 25 [.int .i64 n] [] (fun u L' => u = .pointer none ∧ L' = []) := by
  refine Sat.enter Try.func25 rfl Try.ntmps25 rfl (fun c R => ?_)
  try simp only [List.cons_append, List.nil_append]
  refine T.seq ?_
  refine T.reg ?_
  refine TO.p (DP.as (by conv => lhs; whnf)) ?_
  refine TO.nil ?_
  refine TQ.nn ?_
  refine T.seq ?_
  refine T.seq ?_
  refine T.reg ?_
  refine TO.p (DP.mv (by conv => lhs; whnf)) ?_
  refine TO.p (DP.lssI rfl rfl) ?_
  refine TO.pB (DP.mv (by conv => lhs; whnf)) (fun hg5 => ?_) (fun hg5 => ?_)
  · refine TO.off rfl rfl ?_
    refine TO.off rfl rfl ?_
    refine TO.p (DP.pkT rfl (by conv => lhs; whnf)) ?_
    refine TO.nil ?_
    refine TQ.nn ?_
    refine T.condT rfl ?_
    refine T.seq ?_
    refine T.reg ?_
    refine TO.p (DP.as (by conv => lhs; whnf)) ?_
    refine TO.nil ?_
    refine TQ.nn ?_
    refine T.ret ?_
    refine TQ.nr ?_
    refine TQ.ret (vs := [.pointer none]) (L' := []) rfl ⟨rfl, rfl⟩ ⟨rfl, rfl⟩ (by (refine Ent.imp ?_; repeat first | exact Imp.refl _ | exact Imp.nil _ | (apply Imp.pull; focus ((repeat first | exact Del.head _ _ | apply Del.tail); done)) | (apply Imp.row; focus ((repeat first | exact Del.head _ _ | apply Del.tail); done)) | apply Imp.drop))
  · refine TO.onP rfl (DP.mv (by conv => lhs; whnf)) ?_
    refine TO.onP rfl (DP.gtrI rfl rfl) ?_
    refine TO.p (DP.pkF rfl (by conv => lhs; whnf)) ?_
    refine TO.nil ?_
    refine TQ.nn ?_
    refine T.condD rfl (fun hc0 => ?_) (fun hc0 => ?_)
    · refine T.seq ?_
      refine T.reg ?_
      refine TO.p (DP.as (by conv => lhs; whnf)) ?_
      refine TO.nil ?_
      refine TQ.nn ?_
      refine T.ret ?_
      refine TQ.nr ?_
      refine TQ.ret (vs := [.pointer none]) (L' := []) rfl ⟨rfl, rfl⟩ ⟨rfl, rfl⟩ (by (refine Ent.imp ?_; repeat first | exact Imp.refl _ | exact Imp.nil _ | (apply Imp.pull; focus ((repeat first | exact Del.head _ _ | apply Del.tail); done)) | (apply Imp.row; focus ((repeat first | exact Del.head _ _ | apply Del.tail); done)) | apply Imp.drop))
    · exact absurd hn (by omega)

theorem rnew_ok (n : Nat) (h1 : 1 ≤ n) (h2 : n ≤ 1048576) :
    Sat Try.prog 25 [.int .i64 n] [] (fun u L' => ∃ r b lb, u = .pointer (some ⟨r, 0, none⟩) ∧ L' = [row 63 r [.slice (some ⟨b, 0, none⟩) n n, .slice (some ⟨lb, 0, none⟩) n n], row 5 b ((List.replicate n (0 : UInt8)).map byteV), row 4 lb ((List.replicate n false).map boolV)]) := by
  refine Sat.enter Try.func25 rfl Try.ntmps25 rfl (fun c R => ?_)
  try simp only [List.cons_append, List.nil_append]
  refine T.seq ?_
  refine T.reg ?_
  refine TO.p (DP.as (by conv => lhs; whnf)) ?_
  refine TO.nil ?_
  refine TQ.nn ?_
  refine T.seq ?_
  refine T.seq ?_
  refine T.reg ?_
  refine TO.p (DP.mv (by conv => lhs; whnf)) ?_
  refine TO.p (DP.lss (b := 1) rfl rfl) ?_
  refine TO.pB (DP.mv (by conv => lhs; whnf)) (fun hg5 => ?_) (fun hg5 => ?_)
  · exact absurd hg5 (by omega)
  · refine TO.onP rfl (DP.mv (by conv => lhs; whnf)) ?_
    refine TO.onP rfl (DP.gtr (b := 1048576) rfl rfl) ?_
    refine TO.p (DP.pkF rfl (by conv => lhs; whnf)) ?_
    refine TO.nil ?_
    refine TQ.nn ?_
    refine T.condD rfl (fun hc0 => ?_) (fun hc0 => ?_)
    · exact absurd hc0 (by omega)
    · refine T.skip ?_
      refine TQ.nn ?_
      refine T.seq ?_
      refine T.draw (R) [1, 3, 5] mixed (by repeat first | exact Calm.rt | apply Calm.t | apply Calm.b | apply Calm.l | apply Calm.ct) ?_
      refine TR.p 0 rfl (by kernel_rfl) (DP.mv (by conv => lhs; whnf)) ?_
      refine TR.p 2 rfl (by kernel_rfl) (DP.mv (by conv => lhs; whnf)) ?_
      refine TR.two 1 3 (by kernel_rfl) rfl (N.mk rfl rfl Try.underlying49 sz5 by5 zr5 rfl rfl (by omega)) rfl (N.mk rfl rfl Try.underlying61 sz4 by4 zr4 rfl rfl (by omega)) ?_ ?_
      · rintro _ _ ⟨b10, rfl, rfl⟩
        refine ⟨.inl rfl, ?_⟩
        refine TR.n 3 (by kernel_rfl) rfl (N.mk rfl rfl Try.underlying61 sz4 by4 zr4 rfl rfl (by omega)) ?_
        rintro _ _ ⟨b12, rfl, rfl⟩
        refine ⟨.inl rfl, ?_⟩
        refine TR.p 4 rfl (by kernel_rfl) (DP.bdL (vs := [(0, _), (1, _)]) (us := [_, _]) ⟨rfl, (by conv => lhs; whnf), rfl, (by conv => lhs; whnf), trivial⟩ pc63 zr63 rfl) ?_
        refine TR.n 5 (by kernel_rfl) rfl (N.bxA rfl) ?_
        rintro _ _ ⟨b14, rfl, rfl⟩
        refine ⟨.inl rfl, ?_⟩
        refine TR.p 6 rfl (by kernel_rfl) (DP.as (by conv => lhs; whnf)) ?_
        refine TR.done (by kernel_rfl) ?_
        refine TQ.nn ?_
        refine T.ret ?_
        have hf1 : (List.replicate n [Value.int .u8 0]).flatten = (List.replicate n (0 : UInt8)).map byteV := by simp [byteV]
        have hf2 : (List.replicate n [Value.bool false]).flatten = (List.replicate n false).map boolV := by simp [boolV]
        rw [hf1, hf2]
        refine TQ.ret (vs := [.pointer (some ⟨b14, 0, none⟩)]) (L' := [_, _, _]) rfl ⟨rfl, rfl⟩ ⟨b14, b10, b12, rfl, rfl⟩ (by (refine Ent.imp ?_; repeat first | exact Imp.refl _ | exact Imp.nil _ | (apply Imp.pull; focus ((repeat first | exact Del.head _ _ | apply Del.tail); done)) | (apply Imp.row; focus ((repeat first | exact Del.head _ _ | apply Del.tail); done)) | apply Imp.drop))
      · rintro _ _ ⟨b12, rfl, rfl⟩
        refine ⟨.inl rfl, ?_⟩
        refine TR.n 1 (by kernel_rfl) rfl (N.mk rfl rfl Try.underlying49 sz5 by5 zr5 rfl rfl (by omega)) ?_
        rintro _ _ ⟨b10, rfl, rfl⟩
        refine ⟨.inl rfl, ?_⟩
        refine TR.p 4 rfl (by kernel_rfl) (DP.bdL (vs := [(0, _), (1, _)]) (us := [_, _]) ⟨rfl, (by conv => lhs; whnf), rfl, (by conv => lhs; whnf), trivial⟩ pc63 zr63 rfl) ?_
        refine TR.n 5 (by kernel_rfl) rfl (N.bxA rfl) ?_
        rintro _ _ ⟨b14, rfl, rfl⟩
        refine ⟨.inl rfl, ?_⟩
        refine TR.p 6 rfl (by kernel_rfl) (DP.as (by conv => lhs; whnf)) ?_
        refine TR.done (by kernel_rfl) ?_
        refine TQ.nn ?_
        refine T.ret ?_
        have hf1 : (List.replicate n [Value.int .u8 0]).flatten = (List.replicate n (0 : UInt8)).map byteV := by simp [byteV]
        have hf2 : (List.replicate n [Value.bool false]).flatten = (List.replicate n false).map boolV := by simp [boolV]
        rw [hf1, hf2]
        refine TQ.ret (vs := [.pointer (some ⟨b14, 0, none⟩)]) (L' := [_, _, _]) rfl ⟨rfl, rfl⟩ ⟨b14, b10, b12, rfl, rfl⟩ (by (refine Ent.imp ?_; repeat first | exact Imp.refl _ | exact Imp.nil _ | (apply Imp.pull; focus ((repeat first | exact Del.head _ _ | apply Del.tail); done)) | (apply Imp.row; focus ((repeat first | exact Del.head _ _ | apply Del.tail); done)) | apply Imp.drop))

theorem rfind_ok (q r wb at0 sz : Nat) (wh : List UInt8) (at_ : Nat) (h0 : at0 < 4294967296) (hz : 0 < sz) (hz2 : sz ≤ 1048576) (hc : wh.length ≤ 256) (ha : at_ < 4294967296) (k : Nat) (hk : k < wh.length) (he : at_ = at0 + k * sz) :
    Sat Try.prog 65 [.pointer (some ⟨q, 0, none⟩), .int .u32 at_] [row 94 q [.pointer (some ⟨r, 0, none⟩), .int .u32 at0, .int .i64 sz, .slice (some ⟨wb, 0, none⟩) wh.length wh.length], row 5 wb ((wh).map byteV)] (fun u L' => u = .int .i64 k ∧ L' = [row 94 q [.pointer (some ⟨r, 0, none⟩), .int .u32 at0, .int .i64 sz, .slice (some ⟨wb, 0, none⟩) wh.length wh.length], row 5 wb ((wh).map byteV)]) := by
  refine Sat.enter Try.func65 rfl Try.ntmps65 rfl (fun c R => ?_)
  try simp only [List.cons_append, List.nil_append]
  refine T.seq ?_
  refine T.reg ?_
  refine TO.p (DP.as (by conv => lhs; whnf)) ?_
  refine TO.nil ?_
  refine TQ.nn ?_
  refine T.seq ?_
  refine T.seq ?_
  refine T.reg ?_
  refine TO.p (DP.as (by conv => lhs; whnf)) ?_
  refine TO.nil ?_
  refine TQ.nn ?_
  refine T.block ?_
  refine T.loop (S := Nat) 0 (fun i => [(0, .pointer (some ⟨q, 0, none⟩)), (1, .int .u32 at_), (5, .int .i64 (i : Nat))]) (fun i => row 94 q [.pointer (some ⟨r, 0, none⟩), .int .u32 at0, .int .i64 sz, .slice (some ⟨wb, 0, none⟩) wh.length wh.length] :: row 5 wb (wh.map byteV) :: R) (fun i => i ≤ wh.length ∧ ∀ k, k < i → at_ ≠ at0 + k * sz) (fun i => wh.length - i) ?_ ?_ ?_ ?_
  · (repeat first | exact trivial | refine ⟨rfl, ?_⟩)
  · exact ⟨Nat.zero_le _, fun k h => by omega⟩
  · exact Ent.refl _ _
  rintro i g hI
  refine T.seq ?_
  refine T.seq ?_
  refine T.reg ?_
  refine TO.p (DP.mv (by conv => lhs; whnf)) ?_
  refine TO.p (DP.mv (by conv => lhs; whnf)) ?_
  refine TO.p (DP.nck rfl) ?_
  refine TO.p (DP.fa 3 rfl Try.underlying94 rfl rfl sz49) ?_
  refine TO.d (D.ldR rfl pl49 (by (repeat first | exact LMem.head _ _ | apply LMem.tail)) (by rfl)) ?_
  refine TO.p (DP.lenS rfl Try.underlying49) ?_
  refine TO.p (DP.lss rfl rfl) ?_
  refine TO.nil ?_
  refine TQ.nn ?_
  refine T.condD rfl (fun hc0 => ?_) (fun hc0 => ?_)
  · have him := Nat.mul_le_mul (show i ≤ 256 by omega) hz2
    refine T.skip ?_
    refine TQ.nn ?_
    refine T.seq ?_
    refine T.block ?_
    refine T.seq ?_
    refine T.drawL [] mixed (by repeat first | exact Calm.rt | apply Calm.t | apply Calm.b | apply Calm.l | apply Calm.ct) ?_
    refine TR.p 0 rfl (by kernel_rfl) (DP.mv (by conv => lhs; whnf)) ?_
    refine TR.p 1 rfl (by kernel_rfl) (DP.cv rfl is30 Try.underlying2 (l := 9223372036854775808) rfl (by omega)) ?_
    refine TR.p 2 rfl (by kernel_rfl) (DP.mv (by conv => lhs; whnf)) ?_
    refine TR.p 3 rfl (by kernel_rfl) (DP.nck rfl) ?_
    refine TR.p 4 rfl (by kernel_rfl) (DP.fa 1 rfl Try.underlying94 rfl rfl sz30) ?_
    refine TR.d 5 rfl (by kernel_rfl) (by kernel_rfl) (by (refine Ent.imp ?_; repeat first | exact Imp.refl _ | exact Imp.nil _ | (apply Imp.pull; focus ((repeat first | exact Del.head _ _ | apply Del.tail); done)) | (apply Imp.row; focus ((repeat first | exact Del.head _ _ | apply Del.tail); done)) | apply Imp.drop)) (D.ldR rfl pl30 (by (repeat first | exact LMem.head _ _ | apply LMem.tail)) (by rfl)) ?_
    refine TR.p 6 rfl (by kernel_rfl) (DP.cv rfl is30 Try.underlying2 (l := 9223372036854775808) rfl (by omega)) ?_
    refine TR.p 7 rfl (by kernel_rfl) (DP.mv (by conv => lhs; whnf)) ?_
    refine TR.p 8 rfl (by kernel_rfl) (DP.mv (by conv => lhs; whnf)) ?_
    refine TR.p 9 rfl (by kernel_rfl) (DP.nck rfl) ?_
    refine TR.p 10 rfl (by kernel_rfl) (DP.fa 2 rfl Try.underlying94 rfl rfl sz3) ?_
    refine TR.d 11 rfl (by kernel_rfl) (by kernel_rfl) (by (refine Ent.imp ?_; repeat first | exact Imp.refl _ | exact Imp.nil _ | (apply Imp.pull; focus ((repeat first | exact Del.head _ _ | apply Del.tail); done)) | (apply Imp.row; focus ((repeat first | exact Del.head _ _ | apply Del.tail); done)) | apply Imp.drop)) (D.ldR rfl pl3 (by (repeat first | exact LMem.head _ _ | apply LMem.tail)) (by rfl)) ?_
    refine TR.p 12 rfl (by kernel_rfl) (DP.mul rfl rfl (l := 9223372036854775808) rfl (by omega)) ?_
    refine TR.p 13 rfl (by kernel_rfl) (DP.add rfl rfl (l := 9223372036854775808) rfl (by omega)) ?_
    refine TR.p 14 rfl (by kernel_rfl) (DP.eql rfl rfl) ?_
    refine TR.done (by kernel_rfl) ?_
    refine TQ.nn ?_
    refine T.condD rfl (fun hc1 => ?_) (fun hc1 => ?_)
    · obtain rfl : i = k := by
        have h5 : i * sz = k * sz := by omega
        exact Nat.eq_of_mul_eq_mul_right hz h5
      refine T.seq ?_
      refine T.reg ?_
      refine TO.p (DP.mv (by conv => lhs; whnf)) ?_
      refine TO.p (DP.as (by conv => lhs; whnf)) ?_
      refine TO.nil ?_
      refine TQ.nn ?_
      refine T.ret ?_
      refine TQ.br ?_
      refine TQ.nr ?_
      refine TQ.lr ?_
      refine TQ.br ?_
      refine TQ.nr ?_
      refine TQ.ret (vs := [.int .i64 (i : Nat)]) (L' := [_, _]) rfl ⟨rfl, rfl⟩ ⟨rfl, rfl⟩ (by (refine Ent.imp ?_; repeat first | exact Imp.refl _ | exact Imp.nil _ | (apply Imp.pull; focus ((repeat first | exact Del.head _ _ | apply Del.tail); done)) | (apply Imp.row; focus ((repeat first | exact Del.head _ _ | apply Del.tail); done)) | apply Imp.drop))
    · have hnx : ∀ k, k < i + 1 → at_ ≠ at0 + k * sz := fun k hk => by
        rcases Nat.lt_or_ge k i with h | h
        · exact hI.2 k h
        · obtain rfl : k = i := by omega
          exact hc1
      refine T.skip ?_
      refine TQ.bn ?_
      refine TQ.nn ?_
      refine T.reg ?_
      refine TO.p (DP.mv (by conv => lhs; whnf)) ?_
      refine TO.p (DP.add (b := 1) rfl rfl (l := 9223372036854775808) rfl (by omega)) ?_
      refine TO.p (DP.as (by conv => lhs; whnf)) ?_
      refine TO.nil ?_
      refine TQ.round (i + 1) rfl ?_ ?_ ?_ ?_
      · (repeat first | exact trivial | refine ⟨rfl, ?_⟩)
      · exact ⟨by omega, hnx⟩
      · omega
      · exact Ent.refl _ _
  · exact absurd he (hI.2 k (by omega))

theorem rfind_bad (q r wb at0 sz : Nat) (wh : List UInt8) (at_ : Nat) (h0 : at0 < 4294967296) (hz : 0 < sz) (hz2 : sz ≤ 1048576) (hc : wh.length ≤ 256) (ha : at_ < 4294967296) (hb : ∀ k, k < wh.length → at_ ≠ at0 + k * sz) :
    Sat Try.prog 65 [.pointer (some ⟨q, 0, none⟩), .int .u32 at_] [row 94 q [.pointer (some ⟨r, 0, none⟩), .int .u32 at0, .int .i64 sz, .slice (some ⟨wb, 0, none⟩) wh.length wh.length], row 5 wb ((wh).map byteV)] (fun u L' => u = .int .i64 (-1) ∧ L' = [row 94 q [.pointer (some ⟨r, 0, none⟩), .int .u32 at0, .int .i64 sz, .slice (some ⟨wb, 0, none⟩) wh.length wh.length], row 5 wb ((wh).map byteV)]) := by
  refine Sat.enter Try.func65 rfl Try.ntmps65 rfl (fun c R => ?_)
  try simp only [List.cons_append, List.nil_append]
  refine T.seq ?_
  refine T.reg ?_
  refine TO.p (DP.as (by conv => lhs; whnf)) ?_
  refine TO.nil ?_
  refine TQ.nn ?_
  refine T.seq ?_
  refine T.seq ?_
  refine T.reg ?_
  refine TO.p (DP.as (by conv => lhs; whnf)) ?_
  refine TO.nil ?_
  refine TQ.nn ?_
  refine T.block ?_
  refine T.loop (S := Nat) 0 (fun i => [(0, .pointer (some ⟨q, 0, none⟩)), (1, .int .u32 at_), (5, .int .i64 (i : Nat))]) (fun i => row 94 q [.pointer (some ⟨r, 0, none⟩), .int .u32 at0, .int .i64 sz, .slice (some ⟨wb, 0, none⟩) wh.length wh.length] :: row 5 wb (wh.map byteV) :: R) (fun i => i ≤ wh.length ∧ ∀ k, k < i → at_ ≠ at0 + k * sz) (fun i => wh.length - i) ?_ ?_ ?_ ?_
  · (repeat first | exact trivial | refine ⟨rfl, ?_⟩)
  · exact ⟨Nat.zero_le _, fun k h => by omega⟩
  · exact Ent.refl _ _
  rintro i g hI
  refine T.seq ?_
  refine T.seq ?_
  refine T.reg ?_
  refine TO.p (DP.mv (by conv => lhs; whnf)) ?_
  refine TO.p (DP.mv (by conv => lhs; whnf)) ?_
  refine TO.p (DP.nck rfl) ?_
  refine TO.p (DP.fa 3 rfl Try.underlying94 rfl rfl sz49) ?_
  refine TO.d (D.ldR rfl pl49 (by (repeat first | exact LMem.head _ _ | apply LMem.tail)) (by rfl)) ?_
  refine TO.p (DP.lenS rfl Try.underlying49) ?_
  refine TO.p (DP.lss rfl rfl) ?_
  refine TO.nil ?_
  refine TQ.nn ?_
  refine T.condD rfl (fun hc0 => ?_) (fun hc0 => ?_)
  · have him := Nat.mul_le_mul (show i ≤ 256 by omega) hz2
    refine T.skip ?_
    refine TQ.nn ?_
    refine T.seq ?_
    refine T.block ?_
    refine T.seq ?_
    refine T.drawL [] mixed (by repeat first | exact Calm.rt | apply Calm.t | apply Calm.b | apply Calm.l | apply Calm.ct) ?_
    refine TR.p 0 rfl (by kernel_rfl) (DP.mv (by conv => lhs; whnf)) ?_
    refine TR.p 1 rfl (by kernel_rfl) (DP.cv rfl is30 Try.underlying2 (l := 9223372036854775808) rfl (by omega)) ?_
    refine TR.p 2 rfl (by kernel_rfl) (DP.mv (by conv => lhs; whnf)) ?_
    refine TR.p 3 rfl (by kernel_rfl) (DP.nck rfl) ?_
    refine TR.p 4 rfl (by kernel_rfl) (DP.fa 1 rfl Try.underlying94 rfl rfl sz30) ?_
    refine TR.d 5 rfl (by kernel_rfl) (by kernel_rfl) (by (refine Ent.imp ?_; repeat first | exact Imp.refl _ | exact Imp.nil _ | (apply Imp.pull; focus ((repeat first | exact Del.head _ _ | apply Del.tail); done)) | (apply Imp.row; focus ((repeat first | exact Del.head _ _ | apply Del.tail); done)) | apply Imp.drop)) (D.ldR rfl pl30 (by (repeat first | exact LMem.head _ _ | apply LMem.tail)) (by rfl)) ?_
    refine TR.p 6 rfl (by kernel_rfl) (DP.cv rfl is30 Try.underlying2 (l := 9223372036854775808) rfl (by omega)) ?_
    refine TR.p 7 rfl (by kernel_rfl) (DP.mv (by conv => lhs; whnf)) ?_
    refine TR.p 8 rfl (by kernel_rfl) (DP.mv (by conv => lhs; whnf)) ?_
    refine TR.p 9 rfl (by kernel_rfl) (DP.nck rfl) ?_
    refine TR.p 10 rfl (by kernel_rfl) (DP.fa 2 rfl Try.underlying94 rfl rfl sz3) ?_
    refine TR.d 11 rfl (by kernel_rfl) (by kernel_rfl) (by (refine Ent.imp ?_; repeat first | exact Imp.refl _ | exact Imp.nil _ | (apply Imp.pull; focus ((repeat first | exact Del.head _ _ | apply Del.tail); done)) | (apply Imp.row; focus ((repeat first | exact Del.head _ _ | apply Del.tail); done)) | apply Imp.drop)) (D.ldR rfl pl3 (by (repeat first | exact LMem.head _ _ | apply LMem.tail)) (by rfl)) ?_
    refine TR.p 12 rfl (by kernel_rfl) (DP.mul rfl rfl (l := 9223372036854775808) rfl (by omega)) ?_
    refine TR.p 13 rfl (by kernel_rfl) (DP.add rfl rfl (l := 9223372036854775808) rfl (by omega)) ?_
    refine TR.p 14 rfl (by kernel_rfl) (DP.eql rfl rfl) ?_
    refine TR.done (by kernel_rfl) ?_
    refine TQ.nn ?_
    refine T.condD rfl (fun hc1 => ?_) (fun hc1 => ?_)
    · exact absurd hc1 (hb i (by omega))
    · have hnx : ∀ k, k < i + 1 → at_ ≠ at0 + k * sz := fun k hk => by
        rcases Nat.lt_or_ge k i with h | h
        · exact hI.2 k h
        · obtain rfl : k = i := by omega
          exact hc1
      refine T.skip ?_
      refine TQ.bn ?_
      refine TQ.nn ?_
      refine T.reg ?_
      refine TO.p (DP.mv (by conv => lhs; whnf)) ?_
      refine TO.p (DP.add (b := 1) rfl rfl (l := 9223372036854775808) rfl (by omega)) ?_
      refine TO.p (DP.as (by conv => lhs; whnf)) ?_
      refine TO.nil ?_
      refine TQ.round (i + 1) rfl ?_ ?_ ?_ ?_
      · (repeat first | exact trivial | refine ⟨rfl, ?_⟩)
      · exact ⟨by omega, hnx⟩
      · omega
      · exact Ent.refl _ _
  · refine T.exit ?_
    refine TQ.ne ?_
    refine TQ.le ?_
    refine TQ.be ?_
    refine TQ.nn ?_
    refine T.seq ?_
    refine T.reg ?_
    refine TO.p (DP.as (by conv => lhs; whnf)) ?_
    refine TO.nil ?_
    refine TQ.nn ?_
    refine T.ret ?_
    refine TQ.ret (vs := [.int .i64 (-1)]) (L' := [_, _]) rfl ⟨rfl, rfl⟩ ⟨rfl, rfl⟩ (by (refine Ent.imp ?_; repeat first | exact Imp.refl _ | exact Imp.nil _ | (apply Imp.pull; focus ((repeat first | exact Del.head _ _ | apply Del.tail); done)) | (apply Imp.row; focus ((repeat first | exact Del.head _ _ | apply Del.tail); done)) | apply Imp.drop))

theorem rget_ok (q r wb at0 sz : Nat) (wh : List UInt8) (hr : at0 + wh.length * sz ≤ 1048576) (hc : wh.length ≤ 256) (k : Nat) (hx : wh[k]? = some 0) (hbf : ∀ j, j < k → wh[j]? ≠ some 0) :
    Sat Try.prog 63 [.pointer (some ⟨q, 0, none⟩)] [row 94 q [.pointer (some ⟨r, 0, none⟩), .int .u32 at0, .int .i64 sz, .slice (some ⟨wb, 0, none⟩) wh.length wh.length], row 5 wb ((wh).map byteV)] (fun u L' => u = .tuple #[.int .u32 (at0 + k * sz : Nat), .int .i64 0] ∧ L' = [row 94 q [.pointer (some ⟨r, 0, none⟩), .int .u32 at0, .int .i64 sz, .slice (some ⟨wb, 0, none⟩) wh.length wh.length], row 5 wb ((wh.set k 1).map byteV)]) := by
  refine Sat.enter Try.func63 rfl Try.ntmps63 rfl (fun c R => ?_)
  try simp only [List.cons_append, List.nil_append]
  refine T.seq ?_
  refine T.reg ?_
  refine TO.p (DP.as (by conv => lhs; whnf)) ?_
  refine TO.p (DP.as (by conv => lhs; whnf)) ?_
  refine TO.nil ?_
  refine TQ.nn ?_
  refine T.seq ?_
  refine T.seq ?_
  refine T.reg ?_
  refine TO.p (DP.as (by conv => lhs; whnf)) ?_
  refine TO.nil ?_
  refine TQ.nn ?_
  refine T.block ?_
  refine T.loop (S := Nat) 0 (fun i => [(0, .pointer (some ⟨q, 0, none⟩)), (4, .int .i64 (i : Nat))]) (fun i => row 94 q [.pointer (some ⟨r, 0, none⟩), .int .u32 at0, .int .i64 sz, .slice (some ⟨wb, 0, none⟩) wh.length wh.length] :: row 5 wb (wh.map byteV) :: R) (fun i => i ≤ wh.length ∧ ∀ k, k < i → wh[k]? ≠ some 0) (fun i => wh.length - i) ?_ ?_ ?_ ?_
  · (repeat first | exact trivial | refine ⟨rfl, ?_⟩)
  · exact ⟨Nat.zero_le _, fun k h => by omega⟩
  · exact Ent.refl _ _
  rintro i g hI
  refine T.seq ?_
  refine T.seq ?_
  refine T.reg ?_
  refine TO.p (DP.mv (by conv => lhs; whnf)) ?_
  refine TO.p (DP.mv (by conv => lhs; whnf)) ?_
  refine TO.p (DP.nck rfl) ?_
  refine TO.p (DP.fa 3 rfl Try.underlying94 rfl rfl sz49) ?_
  refine TO.d (D.ldR rfl pl49 (by (repeat first | exact LMem.head _ _ | apply LMem.tail)) (by rfl)) ?_
  refine TO.p (DP.lenS rfl Try.underlying49) ?_
  refine TO.p (DP.lss rfl rfl) ?_
  refine TO.nil ?_
  refine TQ.nn ?_
  refine T.condD rfl (fun hc0 => ?_) (fun hc0 => ?_)
  · obtain ⟨y, hy⟩ := get_some (l := wh) (i := i) (by omega)
    have him := Nat.mul_le_mul_right sz (show i + 1 ≤ wh.length by omega)
    rw [Nat.succ_mul] at him
    refine T.skip ?_
    refine TQ.nn ?_
    refine T.seq ?_
    refine T.block ?_
    refine T.seq ?_
    refine T.reg ?_
    refine TO.p (DP.mv (by conv => lhs; whnf)) ?_
    refine TO.p (DP.nck rfl) ?_
    refine TO.p (DP.fa 3 rfl Try.underlying94 rfl rfl sz49) ?_
    refine TO.d (D.ldR rfl pl49 (by (repeat first | exact LMem.head _ _ | apply LMem.tail)) (by rfl)) ?_
    refine TO.p (DP.mv (by conv => lhs; whnf)) ?_
    refine TO.p (DP.to (v' := .pointer (some ⟨wb, i, none⟩)) (DP.ias rfl rfl Try.underlying49 sz5 (by omega)) (by simp)) ?_
    refine TO.d (D.ldR (v := byteV y) rfl pl5 (by (repeat first | exact LMem.head _ _ | apply LMem.tail)) (map_byte hy)) ?_
    refine TO.p (DP.eql (b := 0) rfl rfl) ?_
    refine TO.nil ?_
    refine TQ.nn ?_
    refine T.condD rfl (fun hc1 => ?_) (fun hc1 => ?_)
    · have hy0 : y = 0 := UInt8.toNat_inj.1 hc1
      subst hy0
      obtain rfl : i = k := by
        rcases Nat.lt_trichotomy i k with h | h | h
        · exact absurd hy (hbf i h)
        · exact h
        · exact absurd hx (hI.2 k h)
      refine T.seq ?_
      refine T.reg ?_
      refine TO.p (DP.mv (by conv => lhs; whnf)) ?_
      refine TO.p (DP.nck rfl) ?_
      refine TO.p (DP.fa 3 rfl Try.underlying94 rfl rfl sz49) ?_
      refine TO.d (D.ldR rfl pl49 (by (repeat first | exact LMem.head _ _ | apply LMem.tail)) (by rfl)) ?_
      refine TO.p (DP.mv (by conv => lhs; whnf)) ?_
      refine TO.p (DP.to (v' := .pointer (some ⟨wb, i, none⟩)) (DP.ias rfl rfl Try.underlying49 sz5 (by omega)) (by simp)) ?_
      refine TO.n0 (N.st (et := 5) rfl (by conv => lhs; whnf) sz5 (by (repeat first | exact Put.head _ _ _ | apply Put.tail)) (by rw [List.length_map]; omega) rfl) ?_
      rintro _ _ ⟨rfl, rfl⟩
      rw [show (wh.map byteV).set i (.int .u8 1) = (wh.set i 1).map byteV by rw [List.map_set]; rfl]
      refine TO.nil ?_
      refine TQ.nn ?_
      refine T.seq ?_
      refine T.drawL [] mixed (by repeat first | exact Calm.rt | apply Calm.t | apply Calm.b | apply Calm.l | apply Calm.ct) ?_
      refine TR.p 0 rfl (by kernel_rfl) (DP.mv (by conv => lhs; whnf)) ?_
      refine TR.p 1 rfl (by kernel_rfl) (DP.nck rfl) ?_
      refine TR.p 2 rfl (by kernel_rfl) (DP.fa 1 rfl Try.underlying94 rfl rfl sz30) ?_
      refine TR.d 3 rfl (by kernel_rfl) (by kernel_rfl) (by (refine Ent.imp ?_; repeat first | exact Imp.refl _ | exact Imp.nil _ | (apply Imp.pull; focus ((repeat first | exact Del.head _ _ | apply Del.tail); done)) | (apply Imp.row; focus ((repeat first | exact Del.head _ _ | apply Del.tail); done)) | apply Imp.drop)) (D.ldR rfl pl30 (by (repeat first | exact LMem.head _ _ | apply LMem.tail)) (by rfl)) ?_
      refine TR.p 4 rfl (by kernel_rfl) (DP.mv (by conv => lhs; whnf)) ?_
      refine TR.p 5 rfl (by kernel_rfl) (DP.mv (by conv => lhs; whnf)) ?_
      refine TR.p 6 rfl (by kernel_rfl) (DP.nck rfl) ?_
      refine TR.p 7 rfl (by kernel_rfl) (DP.fa 2 rfl Try.underlying94 rfl rfl sz3) ?_
      refine TR.d 8 rfl (by kernel_rfl) (by kernel_rfl) (by (refine Ent.imp ?_; repeat first | exact Imp.refl _ | exact Imp.nil _ | (apply Imp.pull; focus ((repeat first | exact Del.head _ _ | apply Del.tail); done)) | (apply Imp.row; focus ((repeat first | exact Del.head _ _ | apply Del.tail); done)) | apply Imp.drop)) (D.ldR rfl pl3 (by (repeat first | exact LMem.head _ _ | apply LMem.tail)) (by rfl)) ?_
      refine TR.p 9 rfl (by kernel_rfl) (DP.mul rfl rfl (l := 9223372036854775808) rfl (by omega)) ?_
      refine TR.p 10 rfl (by kernel_rfl) (DP.cv rfl is3 Try.underlying30 (l := 4294967296) rfl (by omega)) ?_
      refine TR.p 11 rfl (by kernel_rfl) (DP.add rfl rfl (l := 4294967296) rfl (by omega)) ?_
      refine TR.p 12 rfl (by kernel_rfl) (DP.as (by conv => lhs; whnf)) ?_
      refine TR.p 13 rfl (by kernel_rfl) (DP.as (by conv => lhs; whnf)) ?_
      refine TR.done (by kernel_rfl) ?_
      refine TQ.nn ?_
      refine T.ret ?_
      refine TQ.br ?_
      refine TQ.nr ?_
      refine TQ.lr ?_
      refine TQ.br ?_
      refine TQ.nr ?_
      refine TQ.ret (vs := [.int .u32 (at0 + i * sz : Nat), .int .i64 0]) (L' := [row 94 q [.pointer (some ⟨r, 0, none⟩), .int .u32 at0, .int .i64 sz, .slice (some ⟨wb, 0, none⟩) wh.length wh.length], row 5 wb ((wh.set i 1).map byteV)]) rfl ⟨rfl, rfl, rfl⟩ ⟨rfl, rfl⟩ (by (refine Ent.imp ?_; repeat first | exact Imp.refl _ | exact Imp.nil _ | (apply Imp.pull; focus ((repeat first | exact Del.head _ _ | apply Del.tail); done)) | (apply Imp.row; focus ((repeat first | exact Del.head _ _ | apply Del.tail); done)) | apply Imp.drop))
    · have hnx : ∀ k, k < i + 1 → wh[k]? ≠ some 0 := fun k hk => by
        rcases Nat.lt_or_ge k i with h | h
        · exact hI.2 k h
        · obtain rfl : k = i := by omega
          rw [hy]; intro h2; simp at h2; subst h2; exact hc1 rfl
      refine T.skip ?_
      refine TQ.bn ?_
      refine TQ.nn ?_
      refine T.reg ?_
      refine TO.p (DP.mv (by conv => lhs; whnf)) ?_
      refine TO.p (DP.add (b := 1) rfl rfl (l := 9223372036854775808) rfl (by omega)) ?_
      refine TO.p (DP.as (by conv => lhs; whnf)) ?_
      refine TO.nil ?_
      refine TQ.round (i + 1) rfl ?_ ?_ ?_ ?_
      · (repeat first | exact trivial | refine ⟨rfl, ?_⟩)
      · exact ⟨by omega, hnx⟩
      · omega
      · exact Ent.refl _ _
  · have hkl : k < wh.length := by
      rcases Nat.lt_or_ge k wh.length with h | h
      · exact h
      · rw [List.getElem?_eq_none h] at hx; cases hx
    exact absurd hx (hI.2 k (by omega))

theorem rget_full (q r wb at0 sz : Nat) (wh : List UInt8) (hr : at0 + wh.length * sz ≤ 1048576) (hc : wh.length ≤ 256) (hn : 0 ∉ wh) :
    Sat Try.prog 63 [.pointer (some ⟨q, 0, none⟩)] [row 94 q [.pointer (some ⟨r, 0, none⟩), .int .u32 at0, .int .i64 sz, .slice (some ⟨wb, 0, none⟩) wh.length wh.length], row 5 wb ((wh).map byteV)] (fun u L' => u = .tuple #[.int .u32 (0 : Nat), .int .i64 6] ∧ L' = [row 94 q [.pointer (some ⟨r, 0, none⟩), .int .u32 at0, .int .i64 sz, .slice (some ⟨wb, 0, none⟩) wh.length wh.length], row 5 wb ((wh).map byteV)]) := by
  refine Sat.enter Try.func63 rfl Try.ntmps63 rfl (fun c R => ?_)
  try simp only [List.cons_append, List.nil_append]
  refine T.seq ?_
  refine T.reg ?_
  refine TO.p (DP.as (by conv => lhs; whnf)) ?_
  refine TO.p (DP.as (by conv => lhs; whnf)) ?_
  refine TO.nil ?_
  refine TQ.nn ?_
  refine T.seq ?_
  refine T.seq ?_
  refine T.reg ?_
  refine TO.p (DP.as (by conv => lhs; whnf)) ?_
  refine TO.nil ?_
  refine TQ.nn ?_
  refine T.block ?_
  refine T.loop (S := Nat) 0 (fun i => [(0, .pointer (some ⟨q, 0, none⟩)), (4, .int .i64 (i : Nat))]) (fun i => row 94 q [.pointer (some ⟨r, 0, none⟩), .int .u32 at0, .int .i64 sz, .slice (some ⟨wb, 0, none⟩) wh.length wh.length] :: row 5 wb (wh.map byteV) :: R) (fun i => i ≤ wh.length ∧ ∀ k, k < i → wh[k]? ≠ some 0) (fun i => wh.length - i) ?_ ?_ ?_ ?_
  · (repeat first | exact trivial | refine ⟨rfl, ?_⟩)
  · exact ⟨Nat.zero_le _, fun k h => by omega⟩
  · exact Ent.refl _ _
  rintro i g hI
  refine T.seq ?_
  refine T.seq ?_
  refine T.reg ?_
  refine TO.p (DP.mv (by conv => lhs; whnf)) ?_
  refine TO.p (DP.mv (by conv => lhs; whnf)) ?_
  refine TO.p (DP.nck rfl) ?_
  refine TO.p (DP.fa 3 rfl Try.underlying94 rfl rfl sz49) ?_
  refine TO.d (D.ldR rfl pl49 (by (repeat first | exact LMem.head _ _ | apply LMem.tail)) (by rfl)) ?_
  refine TO.p (DP.lenS rfl Try.underlying49) ?_
  refine TO.p (DP.lss rfl rfl) ?_
  refine TO.nil ?_
  refine TQ.nn ?_
  refine T.condD rfl (fun hc0 => ?_) (fun hc0 => ?_)
  · obtain ⟨y, hy⟩ := get_some (l := wh) (i := i) (by omega)
    have him := Nat.mul_le_mul_right sz (show i + 1 ≤ wh.length by omega)
    rw [Nat.succ_mul] at him
    refine T.skip ?_
    refine TQ.nn ?_
    refine T.seq ?_
    refine T.block ?_
    refine T.seq ?_
    refine T.reg ?_
    refine TO.p (DP.mv (by conv => lhs; whnf)) ?_
    refine TO.p (DP.nck rfl) ?_
    refine TO.p (DP.fa 3 rfl Try.underlying94 rfl rfl sz49) ?_
    refine TO.d (D.ldR rfl pl49 (by (repeat first | exact LMem.head _ _ | apply LMem.tail)) (by rfl)) ?_
    refine TO.p (DP.mv (by conv => lhs; whnf)) ?_
    refine TO.p (DP.to (v' := .pointer (some ⟨wb, i, none⟩)) (DP.ias rfl rfl Try.underlying49 sz5 (by omega)) (by simp)) ?_
    refine TO.d (D.ldR (v := byteV y) rfl pl5 (by (repeat first | exact LMem.head _ _ | apply LMem.tail)) (map_byte hy)) ?_
    refine TO.p (DP.eql (b := 0) rfl rfl) ?_
    refine TO.nil ?_
    refine TQ.nn ?_
    refine T.condD rfl (fun hc1 => ?_) (fun hc1 => ?_)
    · exact absurd (by have hy0 : y = 0 := UInt8.toNat_inj.1 hc1; rw [← hy0]; exact mem_of_get hy) hn
    · have hnx : ∀ k, k < i + 1 → wh[k]? ≠ some 0 := fun k hk => by
        rcases Nat.lt_or_ge k i with h | h
        · exact hI.2 k h
        · obtain rfl : k = i := by omega
          rw [hy]; intro h2; simp at h2; subst h2; exact hc1 rfl
      refine T.skip ?_
      refine TQ.bn ?_
      refine TQ.nn ?_
      refine T.reg ?_
      refine TO.p (DP.mv (by conv => lhs; whnf)) ?_
      refine TO.p (DP.add (b := 1) rfl rfl (l := 9223372036854775808) rfl (by omega)) ?_
      refine TO.p (DP.as (by conv => lhs; whnf)) ?_
      refine TO.nil ?_
      refine TQ.round (i + 1) rfl ?_ ?_ ?_ ?_
      · (repeat first | exact trivial | refine ⟨rfl, ?_⟩)
      · exact ⟨by omega, hnx⟩
      · omega
      · exact Ent.refl _ _
  · refine T.exit ?_
    refine TQ.ne ?_
    refine TQ.le ?_
    refine TQ.be ?_
    refine TQ.nn ?_
    refine T.seq ?_
    refine T.reg ?_
    refine TO.p (DP.as (by conv => lhs; whnf)) ?_
    refine TO.p (DP.as (by conv => lhs; whnf)) ?_
    refine TO.nil ?_
    refine TQ.nn ?_
    refine T.ret ?_
    refine TQ.ret (vs := [.int .u32 (0 : Nat), .int .i64 6]) (L' := [_, _]) rfl ⟨rfl, rfl, rfl⟩ ⟨rfl, rfl⟩ (by (refine Ent.imp ?_; repeat first | exact Imp.refl _ | exact Imp.nil _ | (apply Imp.pull; focus ((repeat first | exact Del.head _ _ | apply Del.tail); done)) | (apply Imp.row; focus ((repeat first | exact Del.head _ _ | apply Del.tail); done)) | apply Imp.drop))

theorem rleft (q r wb at0 sz : Nat) (wh : List UInt8) (hc : wh.length ≤ 256) :
    Sat Try.prog 30 [.pointer (some ⟨q, 0, none⟩)] [row 94 q [.pointer (some ⟨r, 0, none⟩), .int .u32 at0, .int .i64 sz, .slice (some ⟨wb, 0, none⟩) wh.length wh.length], row 5 wb ((wh).map byteV)] (fun u L' => u = .int .i64 (wh.count 0 : Nat) ∧ L' = [row 94 q [.pointer (some ⟨r, 0, none⟩), .int .u32 at0, .int .i64 sz, .slice (some ⟨wb, 0, none⟩) wh.length wh.length], row 5 wb ((wh).map byteV)]) := by
  refine Sat.enter Try.func30 rfl Try.ntmps30 rfl (fun c R => ?_)
  try simp only [List.cons_append, List.nil_append]
  refine T.seq ?_
  refine T.reg ?_
  refine TO.p (DP.as (by conv => lhs; whnf)) ?_
  refine TO.nil ?_
  refine TQ.nn ?_
  refine T.seq ?_
  refine T.reg ?_
  refine TO.p (DP.as (by conv => lhs; whnf)) ?_
  refine TO.nil ?_
  refine TQ.nn ?_
  refine T.seq ?_
  refine T.seq ?_
  refine T.reg ?_
  refine TO.p (DP.as (by conv => lhs; whnf)) ?_
  refine TO.nil ?_
  refine TQ.nn ?_
  refine T.block ?_
  refine T.loop (S := Nat) 0 (fun i => [(0, .pointer (some ⟨q, 0, none⟩)), (3, .int .i64 ((wh.take i).count 0 : Nat)), (4, .int .i64 (i : Nat))]) (fun i => row 94 q [.pointer (some ⟨r, 0, none⟩), .int .u32 at0, .int .i64 sz, .slice (some ⟨wb, 0, none⟩) wh.length wh.length] :: row 5 wb (wh.map byteV) :: R) (fun i => i ≤ wh.length) (fun i => wh.length - i) ?_ ?_ ?_ ?_
  · (repeat first | exact trivial | refine ⟨rfl, ?_⟩)
  · (first | trivial | omega | simp)
  · exact Ent.refl _ _
  rintro i g hI
  refine T.seq ?_
  refine T.seq ?_
  refine T.reg ?_
  refine TO.p (DP.mv (by conv => lhs; whnf)) ?_
  refine TO.p (DP.mv (by conv => lhs; whnf)) ?_
  refine TO.p (DP.nck rfl) ?_
  refine TO.p (DP.fa 3 rfl Try.underlying94 rfl rfl sz49) ?_
  refine TO.d (D.ldR rfl pl49 (by (repeat first | exact LMem.head _ _ | apply LMem.tail)) (by rfl)) ?_
  refine TO.p (DP.lenS rfl Try.underlying49) ?_
  refine TO.p (DP.lss rfl rfl) ?_
  refine TO.nil ?_
  refine TQ.nn ?_
  refine T.condD rfl (fun hc0 => ?_) (fun hc0 => ?_)
  · obtain ⟨y, hy⟩ := get_some (l := wh) (i := i) (by omega)
    have hcl : (wh.take i).count 0 ≤ i := Nat.le_trans List.count_le_length (by simp; omega)
    refine T.skip ?_
    refine TQ.nn ?_
    refine T.seq ?_
    refine T.block ?_
    refine T.seq ?_
    refine T.reg ?_
    refine TO.p (DP.mv (by conv => lhs; whnf)) ?_
    refine TO.p (DP.nck rfl) ?_
    refine TO.p (DP.fa 3 rfl Try.underlying94 rfl rfl sz49) ?_
    refine TO.d (D.ldR rfl pl49 (by (repeat first | exact LMem.head _ _ | apply LMem.tail)) (by rfl)) ?_
    refine TO.p (DP.mv (by conv => lhs; whnf)) ?_
    refine TO.p (DP.to (v' := .pointer (some ⟨wb, i, none⟩)) (DP.ias rfl rfl Try.underlying49 sz5 (by omega)) (by simp)) ?_
    refine TO.d (D.ldR (v := byteV y) rfl pl5 (by (repeat first | exact LMem.head _ _ | apply LMem.tail)) (map_byte hy)) ?_
    refine TO.p (DP.eql (b := 0) rfl rfl) ?_
    refine TO.nil ?_
    refine TQ.nn ?_
    refine T.condD rfl (fun hc1 => ?_) (fun hc1 => ?_)
    · have hnx : (wh.take (i + 1)).count 0 = (wh.take i).count 0 + 1 := by rw [List.take_add_one, hy, List.count_append, show y = 0 from UInt8.toNat_inj.1 hc1]; rfl
      refine T.reg ?_
      refine TO.p (DP.mv (by conv => lhs; whnf)) ?_
      refine TO.p (DP.add (b := 1) rfl rfl (l := 9223372036854775808) rfl (by omega)) ?_
      refine TO.p (DP.as (by conv => lhs; whnf)) ?_
      refine TO.nil ?_
      refine TQ.bn ?_
      refine TQ.nn ?_
      refine T.reg ?_
      refine TO.p (DP.mv (by conv => lhs; whnf)) ?_
      refine TO.p (DP.add (b := 1) rfl rfl (l := 9223372036854775808) rfl (by omega)) ?_
      refine TO.p (DP.as (by conv => lhs; whnf)) ?_
      refine TO.nil ?_
      refine TQ.round (i + 1) rfl ?_ ?_ ?_ ?_
      · exact ⟨rfl, by rw [hnx] <;> rfl, rfl, trivial⟩
      · omega
      · omega
      · exact Ent.refl _ _
    · have hnx : (wh.take (i + 1)).count 0 = (wh.take i).count 0 := by
        rw [List.take_add_one, hy, List.count_append]
        have hy0 : ¬ y = 0 := fun h2 => by subst h2; exact hc1 rfl
        simp [hy0]
      refine T.skip ?_
      refine TQ.bn ?_
      refine TQ.nn ?_
      refine T.reg ?_
      refine TO.p (DP.mv (by conv => lhs; whnf)) ?_
      refine TO.p (DP.add (b := 1) rfl rfl (l := 9223372036854775808) rfl (by omega)) ?_
      refine TO.p (DP.as (by conv => lhs; whnf)) ?_
      refine TO.nil ?_
      refine TQ.round (i + 1) rfl ?_ ?_ ?_ ?_
      · exact ⟨rfl, by rw [hnx] <;> rfl, rfl, trivial⟩
      · omega
      · omega
      · exact Ent.refl _ _
  · obtain rfl : i = wh.length := by omega
    refine T.exit ?_
    refine TQ.ne ?_
    refine TQ.le ?_
    refine TQ.be ?_
    refine TQ.nn ?_
    refine T.seq ?_
    refine T.reg ?_
    refine TO.p (DP.mv (by conv => lhs; whnf)) ?_
    refine TO.p (DP.as (by conv => lhs; whnf)) ?_
    refine TO.nil ?_
    refine TQ.nn ?_
    refine T.ret ?_
    refine TQ.ret (vs := [.int .i64 (wh.count 0 : Nat)]) (L' := [_, _]) rfl ⟨by rw [List.take_length]; rfl, rfl⟩ ⟨rfl, rfl⟩ (by (refine Ent.imp ?_; repeat first | exact Imp.refl _ | exact Imp.nil _ | (apply Imp.pull; focus ((repeat first | exact Del.head _ _ | apply Del.tail); done)) | (apply Imp.row; focus ((repeat first | exact Del.head _ _ | apply Del.tail); done)) | apply Imp.drop))

theorem rturn10_bad (q r wb at0 sz at_ b lb : Nat) (wh : List UInt8) (bs : List UInt8) (lt : List Bool) (h0 : at0 < 4294967296) (hz : 0 < sz) (hz2 : sz ≤ 1048576) (hc : wh.length ≤ 256) (ha : at_ < 4294967296) (hbs : bs.length ≤ 1048576) (hlt : lt.length = bs.length) (hb : ∀ k, k < wh.length → at_ ≠ at0 + k * sz) :
    Sat Try.prog 64 [.pointer (some ⟨q, 0, none⟩), .int .u32 at_, .int .u8 1, .int .u8 0] [row 94 q [.pointer (some ⟨r, 0, none⟩), .int .u32 at0, .int .i64 sz, .slice (some ⟨wb, 0, none⟩) wh.length wh.length], row 5 wb ((wh).map byteV)] (fun u L' => u = .int .i64 2 ∧ L' = [row 94 q [.pointer (some ⟨r, 0, none⟩), .int .u32 at0, .int .i64 sz, .slice (some ⟨wb, 0, none⟩) wh.length wh.length], row 5 wb ((wh).map byteV)]) := by
  refine Sat.enter Try.func64 rfl Try.ntmps64 rfl (fun c R => ?_)
  try simp only [List.cons_append, List.nil_append]
  refine T.seq ?_
  refine T.reg ?_
  refine TO.p (DP.as (by conv => lhs; whnf)) ?_
  refine TO.nil ?_
  refine TQ.nn ?_
  refine T.seq ?_
  refine T.reg ?_
  refine TO.p (DP.mv (by conv => lhs; whnf)) ?_
  refine TO.p (DP.mv (by conv => lhs; whnf)) ?_
  refine TO.n (N.callF (rfind_bad q r wb at0 sz wh at_ h0 hz hz2 hc ha hb) Try.call65 ⟨rfl, rfl, trivial⟩ (by (repeat first | exact Pick.nil _ | (apply Pick.cons; focus ((repeat first | exact Del.head _ _ | apply Del.tail); done))))) ?_
  rintro u13 _ ⟨_, ⟨rfl, rfl⟩, rfl⟩
  try simp only [List.cons_append, List.nil_append]
  refine TO.p (DP.as (by conv => lhs; whnf)) ?_
  refine TO.nil ?_
  refine TQ.nn ?_
  refine T.seq ?_
  refine T.seq ?_
  refine T.reg ?_
  refine TO.p (DP.mv (by conv => lhs; whnf)) ?_
  refine TO.p (DP.to (v' := .bool true) (DP.lssI rfl rfl) rfl) ?_
  refine TO.nil ?_
  refine TQ.nn ?_
  refine T.condT rfl ?_
  refine T.seq ?_
  refine T.reg ?_
  refine TO.p (DP.as (by conv => lhs; whnf)) ?_
  refine TO.nil ?_
  refine TQ.nn ?_
  refine T.ret ?_
  refine TQ.nr ?_
  refine TQ.ret (vs := [.int .i64 2]) (L' := [_, _]) rfl ⟨rfl, rfl⟩ ⟨rfl, rfl⟩ (by (refine Ent.imp ?_; repeat first | exact Imp.refl _ | exact Imp.nil _ | (apply Imp.pull; focus ((repeat first | exact Del.head _ _ | apply Del.tail); done)) | (apply Imp.row; focus ((repeat first | exact Del.head _ _ | apply Del.tail); done)) | apply Imp.drop))

theorem rturn10_state (q r wb at0 sz at_ b lb : Nat) (wh : List UInt8) (bs : List UInt8) (lt : List Bool) (h0 : at0 < 4294967296) (hz : 0 < sz) (hz2 : sz ≤ 1048576) (hc : wh.length ≤ 256) (ha : at_ < 4294967296) (hbs : bs.length ≤ 1048576) (hlt : lt.length = bs.length) (y : UInt8) (k : Nat) (hx : wh[k]? = some y) (he : at_ = at0 + k * sz) (hy : y ≠ 1) :
    Sat Try.prog 64 [.pointer (some ⟨q, 0, none⟩), .int .u32 at_, .int .u8 1, .int .u8 0] [row 94 q [.pointer (some ⟨r, 0, none⟩), .int .u32 at0, .int .i64 sz, .slice (some ⟨wb, 0, none⟩) wh.length wh.length], row 5 wb ((wh).map byteV)] (fun u L' => u = .int .i64 3 ∧ L' = [row 94 q [.pointer (some ⟨r, 0, none⟩), .int .u32 at0, .int .i64 sz, .slice (some ⟨wb, 0, none⟩) wh.length wh.length], row 5 wb ((wh).map byteV)]) := by
  refine Sat.enter Try.func64 rfl Try.ntmps64 rfl (fun c R => ?_)
  try simp only [List.cons_append, List.nil_append]
  have hkl : k < wh.length := by
    rcases Nat.lt_or_ge k wh.length with h | h
    · exact h
    · rw [List.getElem?_eq_none h] at hx; cases hx
  refine T.seq ?_
  refine T.reg ?_
  refine TO.p (DP.as (by conv => lhs; whnf)) ?_
  refine TO.nil ?_
  refine TQ.nn ?_
  refine T.seq ?_
  refine T.reg ?_
  refine TO.p (DP.mv (by conv => lhs; whnf)) ?_
  refine TO.p (DP.mv (by conv => lhs; whnf)) ?_
  refine TO.n (N.callF (rfind_ok q r wb at0 sz wh at_ h0 hz hz2 hc ha k hkl he) Try.call65 ⟨rfl, rfl, trivial⟩ (by (repeat first | exact Pick.nil _ | (apply Pick.cons; focus ((repeat first | exact Del.head _ _ | apply Del.tail); done))))) ?_
  rintro u13 _ ⟨_, ⟨rfl, rfl⟩, rfl⟩
  try simp only [List.cons_append, List.nil_append]
  refine TO.p (DP.as (by conv => lhs; whnf)) ?_
  refine TO.nil ?_
  refine TQ.nn ?_
  refine T.seq ?_
  refine T.seq ?_
  refine T.reg ?_
  refine TO.p (DP.mv (by conv => lhs; whnf)) ?_
  refine TO.p (DP.lss (b := 0) rfl rfl) ?_
  refine TO.nil ?_
  refine TQ.nn ?_
  refine T.condD rfl (fun hc0 => ?_) (fun hc0 => ?_)
  · exact absurd hc0 (by omega)
  · refine T.skip ?_
    refine TQ.nn ?_
    refine T.seq ?_
    refine T.seq ?_
    refine T.reg ?_
    refine TO.p (DP.mv (by conv => lhs; whnf)) ?_
    refine TO.p (DP.nck rfl) ?_
    refine TO.p (DP.fa 3 rfl Try.underlying94 rfl rfl sz49) ?_
    refine TO.d (D.ldR rfl pl49 (by (repeat first | exact LMem.head _ _ | apply LMem.tail)) (by rfl)) ?_
    refine TO.p (DP.mv (by conv => lhs; whnf)) ?_
    refine TO.p (DP.to (v' := .pointer (some ⟨wb, k, none⟩)) (DP.ias rfl rfl Try.underlying49 sz5 hkl) (by simp)) ?_
    refine TO.d (D.ldR (v := byteV y) rfl pl5 (by (repeat first | exact LMem.head _ _ | apply LMem.tail)) (map_byte hx)) ?_
    refine TO.p (DP.mv (by conv => lhs; whnf)) ?_
    refine TO.p (DP.neq (b := 1) rfl rfl) ?_
    refine TO.nil ?_
    refine TQ.nn ?_
    refine T.condD rfl (fun hc1 => ?_) (fun hc1 => ?_)
    · refine T.seq ?_
      refine T.reg ?_
      refine TO.p (DP.as (by conv => lhs; whnf)) ?_
      refine TO.nil ?_
      refine TQ.nn ?_
      refine T.ret ?_
      refine TQ.nr ?_
      refine TQ.ret (vs := [.int .i64 3]) (L' := [_, _]) rfl ⟨rfl, rfl⟩ ⟨rfl, rfl⟩ (by (refine Ent.imp ?_; repeat first | exact Imp.refl _ | exact Imp.nil _ | (apply Imp.pull; focus ((repeat first | exact Del.head _ _ | apply Del.tail); done)) | (apply Imp.row; focus ((repeat first | exact Del.head _ _ | apply Del.tail); done)) | apply Imp.drop))
    · exact (hc1 (fun h => hy (UInt8.toNat_inj.1 h))).elim

theorem rturn10_ok (q r wb at0 sz at_ b lb : Nat) (wh : List UInt8) (bs : List UInt8) (lt : List Bool) (h0 : at0 < 4294967296) (hz : 0 < sz) (hz2 : sz ≤ 1048576) (hc : wh.length ≤ 256) (ha : at_ < 4294967296) (hbs : bs.length ≤ 1048576) (hlt : lt.length = bs.length) (k : Nat) (hx : wh[k]? = some 1) (he : at_ = at0 + k * sz) :
    Sat Try.prog 64 [.pointer (some ⟨q, 0, none⟩), .int .u32 at_, .int .u8 1, .int .u8 0] [row 94 q [.pointer (some ⟨r, 0, none⟩), .int .u32 at0, .int .i64 sz, .slice (some ⟨wb, 0, none⟩) wh.length wh.length], row 5 wb ((wh).map byteV)] (fun u L' => u = .int .i64 0 ∧ L' = [row 94 q [.pointer (some ⟨r, 0, none⟩), .int .u32 at0, .int .i64 sz, .slice (some ⟨wb, 0, none⟩) wh.length wh.length], row 5 wb ((wh.set k 0).map byteV)]) := by
  refine Sat.enter Try.func64 rfl Try.ntmps64 rfl (fun c R => ?_)
  try simp only [List.cons_append, List.nil_append]
  have hkl : k < wh.length := by
    rcases Nat.lt_or_ge k wh.length with h | h
    · exact h
    · rw [List.getElem?_eq_none h] at hx; cases hx
  refine T.seq ?_
  refine T.reg ?_
  refine TO.p (DP.as (by conv => lhs; whnf)) ?_
  refine TO.nil ?_
  refine TQ.nn ?_
  refine T.seq ?_
  refine T.reg ?_
  refine TO.p (DP.mv (by conv => lhs; whnf)) ?_
  refine TO.p (DP.mv (by conv => lhs; whnf)) ?_
  refine TO.n (N.callF (rfind_ok q r wb at0 sz wh at_ h0 hz hz2 hc ha k hkl he) Try.call65 ⟨rfl, rfl, trivial⟩ (by (repeat first | exact Pick.nil _ | (apply Pick.cons; focus ((repeat first | exact Del.head _ _ | apply Del.tail); done))))) ?_
  rintro u13 _ ⟨_, ⟨rfl, rfl⟩, rfl⟩
  try simp only [List.cons_append, List.nil_append]
  refine TO.p (DP.as (by conv => lhs; whnf)) ?_
  refine TO.nil ?_
  refine TQ.nn ?_
  refine T.seq ?_
  refine T.seq ?_
  refine T.reg ?_
  refine TO.p (DP.mv (by conv => lhs; whnf)) ?_
  refine TO.p (DP.lss (b := 0) rfl rfl) ?_
  refine TO.nil ?_
  refine TQ.nn ?_
  refine T.condD rfl (fun hc0 => ?_) (fun hc0 => ?_)
  · exact absurd hc0 (by omega)
  · refine T.skip ?_
    refine TQ.nn ?_
    refine T.seq ?_
    refine T.seq ?_
    refine T.reg ?_
    refine TO.p (DP.mv (by conv => lhs; whnf)) ?_
    refine TO.p (DP.nck rfl) ?_
    refine TO.p (DP.fa 3 rfl Try.underlying94 rfl rfl sz49) ?_
    refine TO.d (D.ldR rfl pl49 (by (repeat first | exact LMem.head _ _ | apply LMem.tail)) (by rfl)) ?_
    refine TO.p (DP.mv (by conv => lhs; whnf)) ?_
    refine TO.p (DP.to (v' := .pointer (some ⟨wb, k, none⟩)) (DP.ias rfl rfl Try.underlying49 sz5 hkl) (by simp)) ?_
    refine TO.d (D.ldR (v := byteV 1) rfl pl5 (by (repeat first | exact LMem.head _ _ | apply LMem.tail)) (map_byte hx)) ?_
    refine TO.p (DP.mv (by conv => lhs; whnf)) ?_
    refine TO.p (DP.to (v' := .bool false) (DP.neq (a := 1) (b := 1) rfl rfl) rfl) ?_
    refine TO.nil ?_
    refine TQ.nn ?_
    refine T.condF rfl ?_
    refine T.skip ?_
    refine TQ.nn ?_
    refine T.seq ?_
    refine T.reg ?_
    refine TO.p (DP.as (by conv => lhs; whnf)) ?_
    refine TO.nil ?_
    refine TQ.nn ?_
    refine T.seq ?_
    refine T.seq ?_
    refine T.reg ?_
    refine TO.p (DP.mv (by conv => lhs; whnf)) ?_
    refine TO.p (DP.to (v' := .bool false) (DP.eql (a := 0) (b := 2) rfl rfl) rfl) ?_
    refine TO.nil ?_
    refine TQ.nn ?_
    refine T.condF rfl ?_
    refine T.seq ?_
    refine T.reg ?_
    refine TO.p (DP.mv (by conv => lhs; whnf)) ?_
    refine TO.p (DP.to (v' := .bool false) (DP.eql (a := 1) (b := 2) rfl rfl) rfl) ?_
    refine TO.nil ?_
    refine TQ.nn ?_
    refine T.condF rfl ?_
    refine T.skip ?_
    refine TQ.nn ?_
    refine T.seq ?_
    refine T.seq ?_
    refine T.reg ?_
    refine TO.p (DP.mv (by conv => lhs; whnf)) ?_
    refine TO.p (DP.to (v' := .bool true) (DP.eql (a := 0) (b := 0) rfl rfl) rfl) ?_
    refine TO.nil ?_
    refine TQ.nn ?_
    refine T.condT rfl ?_
    refine T.reg ?_
    refine TO.p (DP.mv (by conv => lhs; whnf)) ?_
    refine TO.p (DP.nck rfl) ?_
    refine TO.p (DP.fa 3 rfl Try.underlying94 rfl rfl sz49) ?_
    refine TO.d (D.ldR rfl pl49 (by (repeat first | exact LMem.head _ _ | apply LMem.tail)) (by rfl)) ?_
    refine TO.p (DP.mv (by conv => lhs; whnf)) ?_
    refine TO.p (DP.mv (by conv => lhs; whnf)) ?_
    refine TO.p (DP.to (v' := .pointer (some ⟨wb, k, none⟩)) (DP.ias rfl rfl Try.underlying49 sz5 hkl) (by simp)) ?_
    refine TO.n0 (N.st (et := 5) rfl (by conv => lhs; whnf) sz5 (by (repeat first | exact Put.head _ _ _ | apply Put.tail)) (by rw [List.length_map]; exact hkl) rfl) ?_
    rintro _ _ ⟨rfl, rfl⟩
    rw [show (wh.map byteV).set k (.int .u8 0) = (wh.set k 0).map byteV by rw [List.map_set]; rfl]
    refine TO.nil ?_
    refine TQ.nn ?_
    refine T.seq ?_
    refine T.reg ?_
    refine TO.p (DP.mv (by conv => lhs; whnf)) ?_
    refine TO.p (DP.as (by conv => lhs; whnf)) ?_
    refine TO.nil ?_
    refine TQ.nn ?_
    refine T.ret ?_
    refine TQ.ret (vs := [.int .i64 0]) (L' := [row 94 q [.pointer (some ⟨r, 0, none⟩), .int .u32 at0, .int .i64 sz, .slice (some ⟨wb, 0, none⟩) wh.length wh.length], row 5 wb ((wh.set k 0).map byteV)]) rfl ⟨rfl, rfl⟩ ⟨rfl, rfl⟩ (by (refine Ent.imp ?_; repeat first | exact Imp.refl _ | exact Imp.nil _ | (apply Imp.pull; focus ((repeat first | exact Del.head _ _ | apply Del.tail); done)) | (apply Imp.row; focus ((repeat first | exact Del.head _ _ | apply Del.tail); done)) | apply Imp.drop))

theorem rturn12_bad (q r wb at0 sz at_ b lb : Nat) (wh : List UInt8) (bs : List UInt8) (lt : List Bool) (h0 : at0 < 4294967296) (hz : 0 < sz) (hz2 : sz ≤ 1048576) (hc : wh.length ≤ 256) (ha : at_ < 4294967296) (hbs : bs.length ≤ 1048576) (hlt : lt.length = bs.length) (hb : ∀ k, k < wh.length → at_ ≠ at0 + k * sz) :
    Sat Try.prog 64 [.pointer (some ⟨q, 0, none⟩), .int .u32 at_, .int .u8 1, .int .u8 2] [row 94 q [.pointer (some ⟨r, 0, none⟩), .int .u32 at0, .int .i64 sz, .slice (some ⟨wb, 0, none⟩) wh.length wh.length], row 5 wb ((wh).map byteV)] (fun u L' => u = .int .i64 2 ∧ L' = [row 94 q [.pointer (some ⟨r, 0, none⟩), .int .u32 at0, .int .i64 sz, .slice (some ⟨wb, 0, none⟩) wh.length wh.length], row 5 wb ((wh).map byteV)]) := by
  refine Sat.enter Try.func64 rfl Try.ntmps64 rfl (fun c R => ?_)
  try simp only [List.cons_append, List.nil_append]
  refine T.seq ?_
  refine T.reg ?_
  refine TO.p (DP.as (by conv => lhs; whnf)) ?_
  refine TO.nil ?_
  refine TQ.nn ?_
  refine T.seq ?_
  refine T.reg ?_
  refine TO.p (DP.mv (by conv => lhs; whnf)) ?_
  refine TO.p (DP.mv (by conv => lhs; whnf)) ?_
  refine TO.n (N.callF (rfind_bad q r wb at0 sz wh at_ h0 hz hz2 hc ha hb) Try.call65 ⟨rfl, rfl, trivial⟩ (by (repeat first | exact Pick.nil _ | (apply Pick.cons; focus ((repeat first | exact Del.head _ _ | apply Del.tail); done))))) ?_
  rintro u13 _ ⟨_, ⟨rfl, rfl⟩, rfl⟩
  try simp only [List.cons_append, List.nil_append]
  refine TO.p (DP.as (by conv => lhs; whnf)) ?_
  refine TO.nil ?_
  refine TQ.nn ?_
  refine T.seq ?_
  refine T.seq ?_
  refine T.reg ?_
  refine TO.p (DP.mv (by conv => lhs; whnf)) ?_
  refine TO.p (DP.to (v' := .bool true) (DP.lssI rfl rfl) rfl) ?_
  refine TO.nil ?_
  refine TQ.nn ?_
  refine T.condT rfl ?_
  refine T.seq ?_
  refine T.reg ?_
  refine TO.p (DP.as (by conv => lhs; whnf)) ?_
  refine TO.nil ?_
  refine TQ.nn ?_
  refine T.ret ?_
  refine TQ.nr ?_
  refine TQ.ret (vs := [.int .i64 2]) (L' := [_, _]) rfl ⟨rfl, rfl⟩ ⟨rfl, rfl⟩ (by (refine Ent.imp ?_; repeat first | exact Imp.refl _ | exact Imp.nil _ | (apply Imp.pull; focus ((repeat first | exact Del.head _ _ | apply Del.tail); done)) | (apply Imp.row; focus ((repeat first | exact Del.head _ _ | apply Del.tail); done)) | apply Imp.drop))

theorem rturn12_state (q r wb at0 sz at_ b lb : Nat) (wh : List UInt8) (bs : List UInt8) (lt : List Bool) (h0 : at0 < 4294967296) (hz : 0 < sz) (hz2 : sz ≤ 1048576) (hc : wh.length ≤ 256) (ha : at_ < 4294967296) (hbs : bs.length ≤ 1048576) (hlt : lt.length = bs.length) (y : UInt8) (k : Nat) (hx : wh[k]? = some y) (he : at_ = at0 + k * sz) (hy : y ≠ 1) :
    Sat Try.prog 64 [.pointer (some ⟨q, 0, none⟩), .int .u32 at_, .int .u8 1, .int .u8 2] [row 94 q [.pointer (some ⟨r, 0, none⟩), .int .u32 at0, .int .i64 sz, .slice (some ⟨wb, 0, none⟩) wh.length wh.length], row 5 wb ((wh).map byteV)] (fun u L' => u = .int .i64 3 ∧ L' = [row 94 q [.pointer (some ⟨r, 0, none⟩), .int .u32 at0, .int .i64 sz, .slice (some ⟨wb, 0, none⟩) wh.length wh.length], row 5 wb ((wh).map byteV)]) := by
  refine Sat.enter Try.func64 rfl Try.ntmps64 rfl (fun c R => ?_)
  try simp only [List.cons_append, List.nil_append]
  have hkl : k < wh.length := by
    rcases Nat.lt_or_ge k wh.length with h | h
    · exact h
    · rw [List.getElem?_eq_none h] at hx; cases hx
  refine T.seq ?_
  refine T.reg ?_
  refine TO.p (DP.as (by conv => lhs; whnf)) ?_
  refine TO.nil ?_
  refine TQ.nn ?_
  refine T.seq ?_
  refine T.reg ?_
  refine TO.p (DP.mv (by conv => lhs; whnf)) ?_
  refine TO.p (DP.mv (by conv => lhs; whnf)) ?_
  refine TO.n (N.callF (rfind_ok q r wb at0 sz wh at_ h0 hz hz2 hc ha k hkl he) Try.call65 ⟨rfl, rfl, trivial⟩ (by (repeat first | exact Pick.nil _ | (apply Pick.cons; focus ((repeat first | exact Del.head _ _ | apply Del.tail); done))))) ?_
  rintro u13 _ ⟨_, ⟨rfl, rfl⟩, rfl⟩
  try simp only [List.cons_append, List.nil_append]
  refine TO.p (DP.as (by conv => lhs; whnf)) ?_
  refine TO.nil ?_
  refine TQ.nn ?_
  refine T.seq ?_
  refine T.seq ?_
  refine T.reg ?_
  refine TO.p (DP.mv (by conv => lhs; whnf)) ?_
  refine TO.p (DP.lss (b := 0) rfl rfl) ?_
  refine TO.nil ?_
  refine TQ.nn ?_
  refine T.condD rfl (fun hc0 => ?_) (fun hc0 => ?_)
  · exact absurd hc0 (by omega)
  · refine T.skip ?_
    refine TQ.nn ?_
    refine T.seq ?_
    refine T.seq ?_
    refine T.reg ?_
    refine TO.p (DP.mv (by conv => lhs; whnf)) ?_
    refine TO.p (DP.nck rfl) ?_
    refine TO.p (DP.fa 3 rfl Try.underlying94 rfl rfl sz49) ?_
    refine TO.d (D.ldR rfl pl49 (by (repeat first | exact LMem.head _ _ | apply LMem.tail)) (by rfl)) ?_
    refine TO.p (DP.mv (by conv => lhs; whnf)) ?_
    refine TO.p (DP.to (v' := .pointer (some ⟨wb, k, none⟩)) (DP.ias rfl rfl Try.underlying49 sz5 hkl) (by simp)) ?_
    refine TO.d (D.ldR (v := byteV y) rfl pl5 (by (repeat first | exact LMem.head _ _ | apply LMem.tail)) (map_byte hx)) ?_
    refine TO.p (DP.mv (by conv => lhs; whnf)) ?_
    refine TO.p (DP.neq (b := 1) rfl rfl) ?_
    refine TO.nil ?_
    refine TQ.nn ?_
    refine T.condD rfl (fun hc1 => ?_) (fun hc1 => ?_)
    · refine T.seq ?_
      refine T.reg ?_
      refine TO.p (DP.as (by conv => lhs; whnf)) ?_
      refine TO.nil ?_
      refine TQ.nn ?_
      refine T.ret ?_
      refine TQ.nr ?_
      refine TQ.ret (vs := [.int .i64 3]) (L' := [_, _]) rfl ⟨rfl, rfl⟩ ⟨rfl, rfl⟩ (by (refine Ent.imp ?_; repeat first | exact Imp.refl _ | exact Imp.nil _ | (apply Imp.pull; focus ((repeat first | exact Del.head _ _ | apply Del.tail); done)) | (apply Imp.row; focus ((repeat first | exact Del.head _ _ | apply Del.tail); done)) | apply Imp.drop))
    · exact (hc1 (fun h => hy (UInt8.toNat_inj.1 h))).elim

theorem rturn12_ok (q r wb at0 sz at_ b lb : Nat) (wh : List UInt8) (bs : List UInt8) (lt : List Bool) (h0 : at0 < 4294967296) (hz : 0 < sz) (hz2 : sz ≤ 1048576) (hc : wh.length ≤ 256) (ha : at_ < 4294967296) (hbs : bs.length ≤ 1048576) (hlt : lt.length = bs.length) (k : Nat) (hx : wh[k]? = some 1) (he : at_ = at0 + k * sz) (hin : at_ + sz ≤ bs.length) (hs : allB lt at_ sz false = true) :
    Sat Try.prog 64 [.pointer (some ⟨q, 0, none⟩), .int .u32 at_, .int .u8 1, .int .u8 2] [row 94 q [.pointer (some ⟨r, 0, none⟩), .int .u32 at0, .int .i64 sz, .slice (some ⟨wb, 0, none⟩) wh.length wh.length], row 5 wb ((wh).map byteV), row 63 r [.slice (some ⟨b, 0, none⟩) bs.length bs.length, .slice (some ⟨lb, 0, none⟩) lt.length lt.length], row 5 b ((bs).map byteV), row 4 lb ((lt).map boolV)] (fun u L' => u = .int .i64 0 ∧ L' = [row 94 q [.pointer (some ⟨r, 0, none⟩), .int .u32 at0, .int .i64 sz, .slice (some ⟨wb, 0, none⟩) wh.length wh.length], row 5 wb ((wh.set k 2).map byteV), row 63 r [.slice (some ⟨b, 0, none⟩) bs.length bs.length, .slice (some ⟨lb, 0, none⟩) lt.length lt.length], row 5 b ((bs).map byteV), row 4 lb ((fillB lt at_ sz true).map boolV)]) := by
  refine Sat.enter Try.func64 rfl Try.ntmps64 rfl (fun c R => ?_)
  try simp only [List.cons_append, List.nil_append]
  have hkl : k < wh.length := by
    rcases Nat.lt_or_ge k wh.length with h | h
    · exact h
    · rw [List.getElem?_eq_none h] at hx; cases hx
  refine T.seq ?_
  refine T.reg ?_
  refine TO.p (DP.as (by conv => lhs; whnf)) ?_
  refine TO.nil ?_
  refine TQ.nn ?_
  refine T.seq ?_
  refine T.reg ?_
  refine TO.p (DP.mv (by conv => lhs; whnf)) ?_
  refine TO.p (DP.mv (by conv => lhs; whnf)) ?_
  refine TO.n (N.callF (rfind_ok q r wb at0 sz wh at_ h0 hz hz2 hc ha k hkl he) Try.call65 ⟨rfl, rfl, trivial⟩ (by (repeat first | exact Pick.nil _ | (apply Pick.cons; focus ((repeat first | exact Del.head _ _ | apply Del.tail); done))))) ?_
  rintro u13 _ ⟨_, ⟨rfl, rfl⟩, rfl⟩
  try simp only [List.cons_append, List.nil_append]
  refine TO.p (DP.as (by conv => lhs; whnf)) ?_
  refine TO.nil ?_
  refine TQ.nn ?_
  refine T.seq ?_
  refine T.seq ?_
  refine T.reg ?_
  refine TO.p (DP.mv (by conv => lhs; whnf)) ?_
  refine TO.p (DP.lss (b := 0) rfl rfl) ?_
  refine TO.nil ?_
  refine TQ.nn ?_
  refine T.condD rfl (fun hc0 => ?_) (fun hc0 => ?_)
  · exact absurd hc0 (by omega)
  · refine T.skip ?_
    refine TQ.nn ?_
    refine T.seq ?_
    refine T.seq ?_
    refine T.reg ?_
    refine TO.p (DP.mv (by conv => lhs; whnf)) ?_
    refine TO.p (DP.nck rfl) ?_
    refine TO.p (DP.fa 3 rfl Try.underlying94 rfl rfl sz49) ?_
    refine TO.d (D.ldR rfl pl49 (by (repeat first | exact LMem.head _ _ | apply LMem.tail)) (by rfl)) ?_
    refine TO.p (DP.mv (by conv => lhs; whnf)) ?_
    refine TO.p (DP.to (v' := .pointer (some ⟨wb, k, none⟩)) (DP.ias rfl rfl Try.underlying49 sz5 hkl) (by simp)) ?_
    refine TO.d (D.ldR (v := byteV 1) rfl pl5 (by (repeat first | exact LMem.head _ _ | apply LMem.tail)) (map_byte hx)) ?_
    refine TO.p (DP.mv (by conv => lhs; whnf)) ?_
    refine TO.p (DP.to (v' := .bool false) (DP.neq (a := 1) (b := 1) rfl rfl) rfl) ?_
    refine TO.nil ?_
    refine TQ.nn ?_
    refine T.condF rfl ?_
    refine T.skip ?_
    refine TQ.nn ?_
    refine T.seq ?_
    refine T.reg ?_
    refine TO.p (DP.as (by conv => lhs; whnf)) ?_
    refine TO.nil ?_
    refine TQ.nn ?_
    refine T.seq ?_
    refine T.seq ?_
    refine T.reg ?_
    refine TO.p (DP.mv (by conv => lhs; whnf)) ?_
    refine TO.p (DP.to (v' := .bool true) (DP.eql (a := 2) (b := 2) rfl rfl) rfl) ?_
    refine TO.nil ?_
    refine TQ.nn ?_
    refine T.condT rfl ?_
    refine T.drawL [11] mixed (by repeat first | exact Calm.rt | apply Calm.t | apply Calm.b | apply Calm.l | apply Calm.ct) ?_
    refine TR.p 0 rfl (by kernel_rfl) (DP.mv (by conv => lhs; whnf)) ?_
    refine TR.p 1 rfl (by kernel_rfl) (DP.nck rfl) ?_
    refine TR.p 2 rfl (by kernel_rfl) (DP.fa 0 rfl Try.underlying94 rfl rfl sz55) ?_
    refine TR.d 3 rfl (by kernel_rfl) (by kernel_rfl) (by (refine Ent.imp ?_; repeat first | exact Imp.refl _ | exact Imp.nil _ | (apply Imp.pull; focus ((repeat first | exact Del.head _ _ | apply Del.tail); done)) | (apply Imp.row; focus ((repeat first | exact Del.head _ _ | apply Del.tail); done)) | apply Imp.drop)) (D.ldR rfl pl55 (by (repeat first | exact LMem.head _ _ | apply LMem.tail)) (by rfl)) ?_
    refine TR.p 4 rfl (by kernel_rfl) (DP.mv (by conv => lhs; whnf)) ?_
    refine TR.p 5 rfl (by kernel_rfl) (DP.mv (by conv => lhs; whnf)) ?_
    refine TR.p 6 rfl (by kernel_rfl) (DP.nck rfl) ?_
    refine TR.p 7 rfl (by kernel_rfl) (DP.fa 2 rfl Try.underlying94 rfl rfl sz3) ?_
    refine TR.d 8 rfl (by kernel_rfl) (by kernel_rfl) (by (refine Ent.imp ?_; repeat first | exact Imp.refl _ | exact Imp.nil _ | (apply Imp.pull; focus ((repeat first | exact Del.head _ _ | apply Del.tail); done)) | (apply Imp.row; focus ((repeat first | exact Del.head _ _ | apply Del.tail); done)) | apply Imp.drop)) (D.ldR rfl pl3 (by (repeat first | exact LMem.head _ _ | apply LMem.tail)) (by rfl)) ?_
    refine TR.p 9 rfl (by kernel_rfl) (DP.cv rfl is3 Try.underlying30 (l := 4294967296) rfl (by omega)) ?_
    refine TR.p 10 rfl (by kernel_rfl) (DP.bdL (vs := [(0, _), (1, _)]) (us := [_, _]) ⟨rfl, (by conv => lhs; whnf), rfl, (by conv => lhs; whnf), trivial⟩ pc42 zr42 rfl) ?_
    refine TR.n 11 (by kernel_rfl) rfl (N.callF (rlend_ok r b lb at_ sz bs lt hbs hlt ha (by omega) hz hin hs) Try.call60 ⟨rfl, rfl, trivial⟩ (by (repeat first | exact Pick.nil _ | (apply Pick.cons; focus ((repeat first | exact Del.head _ _ | apply Del.tail); done))))) ?_
    rintro u38 _ ⟨_, ⟨rfl, rfl⟩, rfl⟩
    try simp only [List.cons_append, List.nil_append]
    refine ⟨.inl rfl, ?_⟩
    refine TR.p 12 rfl (by kernel_rfl) (DP.as (by conv => lhs; whnf)) ?_
    refine TR.done (by kernel_rfl) ?_
    refine TQ.nn ?_
    refine T.seq ?_
    refine T.seq ?_
    refine T.reg ?_
    refine TO.p (DP.mv (by conv => lhs; whnf)) ?_
    refine TO.p (DP.to (v' := .bool true) (DP.eql (a := 0) (b := 0) rfl rfl) rfl) ?_
    refine TO.nil ?_
    refine TQ.nn ?_
    refine T.condT rfl ?_
    refine T.reg ?_
    refine TO.p (DP.mv (by conv => lhs; whnf)) ?_
    refine TO.p (DP.nck rfl) ?_
    refine TO.p (DP.fa 3 rfl Try.underlying94 rfl rfl sz49) ?_
    refine TO.d (D.ldR rfl pl49 (by (repeat first | exact LMem.head _ _ | apply LMem.tail)) (by rfl)) ?_
    refine TO.p (DP.mv (by conv => lhs; whnf)) ?_
    refine TO.p (DP.mv (by conv => lhs; whnf)) ?_
    refine TO.p (DP.to (v' := .pointer (some ⟨wb, k, none⟩)) (DP.ias rfl rfl Try.underlying49 sz5 hkl) (by simp)) ?_
    refine TO.n0 (N.st (et := 5) rfl (by conv => lhs; whnf) sz5 (by (repeat first | exact Put.head _ _ _ | apply Put.tail)) (by rw [List.length_map]; exact hkl) rfl) ?_
    rintro _ _ ⟨rfl, rfl⟩
    rw [show (wh.map byteV).set k (.int .u8 2) = (wh.set k 2).map byteV by rw [List.map_set]; rfl]
    refine TO.nil ?_
    refine TQ.nn ?_
    refine T.seq ?_
    refine T.reg ?_
    refine TO.p (DP.mv (by conv => lhs; whnf)) ?_
    refine TO.p (DP.as (by conv => lhs; whnf)) ?_
    refine TO.nil ?_
    refine TQ.nn ?_
    refine T.ret ?_
    refine TQ.ret (vs := [.int .i64 0]) (L' := [row 94 q [.pointer (some ⟨r, 0, none⟩), .int .u32 at0, .int .i64 sz, .slice (some ⟨wb, 0, none⟩) wh.length wh.length], row 5 wb ((wh.set k 2).map byteV), row 63 r [.slice (some ⟨b, 0, none⟩) bs.length bs.length, .slice (some ⟨lb, 0, none⟩) lt.length lt.length], row 5 b ((bs).map byteV), row 4 lb ((fillB lt at_ sz true).map boolV)]) rfl ⟨rfl, rfl⟩ ⟨rfl, rfl⟩ (by (refine Ent.imp ?_; repeat first | exact Imp.refl _ | exact Imp.nil _ | (apply Imp.pull; focus ((repeat first | exact Del.head _ _ | apply Del.tail); done)) | (apply Imp.row; focus ((repeat first | exact Del.head _ _ | apply Del.tail); done)) | apply Imp.drop))

theorem rturn12_ref (q r wb at0 sz at_ b lb : Nat) (wh : List UInt8) (bs : List UInt8) (lt : List Bool) (h0 : at0 < 4294967296) (hz : 0 < sz) (hz2 : sz ≤ 1048576) (hc : wh.length ≤ 256) (ha : at_ < 4294967296) (hbs : bs.length ≤ 1048576) (hlt : lt.length = bs.length) (k : Nat) (hx : wh[k]? = some 1) (he : at_ = at0 + k * sz) (hin : at_ + sz ≤ bs.length) (hs : allB lt at_ sz false = false) :
    Sat Try.prog 64 [.pointer (some ⟨q, 0, none⟩), .int .u32 at_, .int .u8 1, .int .u8 2] [row 94 q [.pointer (some ⟨r, 0, none⟩), .int .u32 at0, .int .i64 sz, .slice (some ⟨wb, 0, none⟩) wh.length wh.length], row 5 wb ((wh).map byteV), row 63 r [.slice (some ⟨b, 0, none⟩) bs.length bs.length, .slice (some ⟨lb, 0, none⟩) lt.length lt.length], row 5 b ((bs).map byteV), row 4 lb ((lt).map boolV)] (fun u L' => u = .int .i64 11 ∧ L' = [row 94 q [.pointer (some ⟨r, 0, none⟩), .int .u32 at0, .int .i64 sz, .slice (some ⟨wb, 0, none⟩) wh.length wh.length], row 5 wb ((wh).map byteV), row 63 r [.slice (some ⟨b, 0, none⟩) bs.length bs.length, .slice (some ⟨lb, 0, none⟩) lt.length lt.length], row 5 b ((bs).map byteV), row 4 lb ((lt).map boolV)]) := by
  refine Sat.enter Try.func64 rfl Try.ntmps64 rfl (fun c R => ?_)
  try simp only [List.cons_append, List.nil_append]
  have hkl : k < wh.length := by
    rcases Nat.lt_or_ge k wh.length with h | h
    · exact h
    · rw [List.getElem?_eq_none h] at hx; cases hx
  refine T.seq ?_
  refine T.reg ?_
  refine TO.p (DP.as (by conv => lhs; whnf)) ?_
  refine TO.nil ?_
  refine TQ.nn ?_
  refine T.seq ?_
  refine T.reg ?_
  refine TO.p (DP.mv (by conv => lhs; whnf)) ?_
  refine TO.p (DP.mv (by conv => lhs; whnf)) ?_
  refine TO.n (N.callF (rfind_ok q r wb at0 sz wh at_ h0 hz hz2 hc ha k hkl he) Try.call65 ⟨rfl, rfl, trivial⟩ (by (repeat first | exact Pick.nil _ | (apply Pick.cons; focus ((repeat first | exact Del.head _ _ | apply Del.tail); done))))) ?_
  rintro u13 _ ⟨_, ⟨rfl, rfl⟩, rfl⟩
  try simp only [List.cons_append, List.nil_append]
  refine TO.p (DP.as (by conv => lhs; whnf)) ?_
  refine TO.nil ?_
  refine TQ.nn ?_
  refine T.seq ?_
  refine T.seq ?_
  refine T.reg ?_
  refine TO.p (DP.mv (by conv => lhs; whnf)) ?_
  refine TO.p (DP.lss (b := 0) rfl rfl) ?_
  refine TO.nil ?_
  refine TQ.nn ?_
  refine T.condD rfl (fun hc0 => ?_) (fun hc0 => ?_)
  · exact absurd hc0 (by omega)
  · refine T.skip ?_
    refine TQ.nn ?_
    refine T.seq ?_
    refine T.seq ?_
    refine T.reg ?_
    refine TO.p (DP.mv (by conv => lhs; whnf)) ?_
    refine TO.p (DP.nck rfl) ?_
    refine TO.p (DP.fa 3 rfl Try.underlying94 rfl rfl sz49) ?_
    refine TO.d (D.ldR rfl pl49 (by (repeat first | exact LMem.head _ _ | apply LMem.tail)) (by rfl)) ?_
    refine TO.p (DP.mv (by conv => lhs; whnf)) ?_
    refine TO.p (DP.to (v' := .pointer (some ⟨wb, k, none⟩)) (DP.ias rfl rfl Try.underlying49 sz5 hkl) (by simp)) ?_
    refine TO.d (D.ldR (v := byteV 1) rfl pl5 (by (repeat first | exact LMem.head _ _ | apply LMem.tail)) (map_byte hx)) ?_
    refine TO.p (DP.mv (by conv => lhs; whnf)) ?_
    refine TO.p (DP.to (v' := .bool false) (DP.neq (a := 1) (b := 1) rfl rfl) rfl) ?_
    refine TO.nil ?_
    refine TQ.nn ?_
    refine T.condF rfl ?_
    refine T.skip ?_
    refine TQ.nn ?_
    refine T.seq ?_
    refine T.reg ?_
    refine TO.p (DP.as (by conv => lhs; whnf)) ?_
    refine TO.nil ?_
    refine TQ.nn ?_
    refine T.seq ?_
    refine T.seq ?_
    refine T.reg ?_
    refine TO.p (DP.mv (by conv => lhs; whnf)) ?_
    refine TO.p (DP.to (v' := .bool true) (DP.eql (a := 2) (b := 2) rfl rfl) rfl) ?_
    refine TO.nil ?_
    refine TQ.nn ?_
    refine T.condT rfl ?_
    refine T.drawL [11] mixed (by repeat first | exact Calm.rt | apply Calm.t | apply Calm.b | apply Calm.l | apply Calm.ct) ?_
    refine TR.p 0 rfl (by kernel_rfl) (DP.mv (by conv => lhs; whnf)) ?_
    refine TR.p 1 rfl (by kernel_rfl) (DP.nck rfl) ?_
    refine TR.p 2 rfl (by kernel_rfl) (DP.fa 0 rfl Try.underlying94 rfl rfl sz55) ?_
    refine TR.d 3 rfl (by kernel_rfl) (by kernel_rfl) (by (refine Ent.imp ?_; repeat first | exact Imp.refl _ | exact Imp.nil _ | (apply Imp.pull; focus ((repeat first | exact Del.head _ _ | apply Del.tail); done)) | (apply Imp.row; focus ((repeat first | exact Del.head _ _ | apply Del.tail); done)) | apply Imp.drop)) (D.ldR rfl pl55 (by (repeat first | exact LMem.head _ _ | apply LMem.tail)) (by rfl)) ?_
    refine TR.p 4 rfl (by kernel_rfl) (DP.mv (by conv => lhs; whnf)) ?_
    refine TR.p 5 rfl (by kernel_rfl) (DP.mv (by conv => lhs; whnf)) ?_
    refine TR.p 6 rfl (by kernel_rfl) (DP.nck rfl) ?_
    refine TR.p 7 rfl (by kernel_rfl) (DP.fa 2 rfl Try.underlying94 rfl rfl sz3) ?_
    refine TR.d 8 rfl (by kernel_rfl) (by kernel_rfl) (by (refine Ent.imp ?_; repeat first | exact Imp.refl _ | exact Imp.nil _ | (apply Imp.pull; focus ((repeat first | exact Del.head _ _ | apply Del.tail); done)) | (apply Imp.row; focus ((repeat first | exact Del.head _ _ | apply Del.tail); done)) | apply Imp.drop)) (D.ldR rfl pl3 (by (repeat first | exact LMem.head _ _ | apply LMem.tail)) (by rfl)) ?_
    refine TR.p 9 rfl (by kernel_rfl) (DP.cv rfl is3 Try.underlying30 (l := 4294967296) rfl (by omega)) ?_
    refine TR.p 10 rfl (by kernel_rfl) (DP.bdL (vs := [(0, _), (1, _)]) (us := [_, _]) ⟨rfl, (by conv => lhs; whnf), rfl, (by conv => lhs; whnf), trivial⟩ pc42 zr42 rfl) ?_
    refine TR.n 11 (by kernel_rfl) rfl (N.callF (rlend_bad r b lb at_ sz bs lt hbs hlt ha (by omega) hz hin hs) Try.call60 ⟨rfl, rfl, trivial⟩ (by (repeat first | exact Pick.nil _ | (apply Pick.cons; focus ((repeat first | exact Del.head _ _ | apply Del.tail); done))))) ?_
    rintro u38 _ ⟨_, ⟨rfl, rfl⟩, rfl⟩
    try simp only [List.cons_append, List.nil_append]
    refine ⟨.inl rfl, ?_⟩
    refine TR.p 12 rfl (by kernel_rfl) (DP.as (by conv => lhs; whnf)) ?_
    refine TR.done (by kernel_rfl) ?_
    refine TQ.nn ?_
    refine T.seq ?_
    refine T.seq ?_
    refine T.reg ?_
    refine TO.p (DP.mv (by conv => lhs; whnf)) ?_
    refine TO.p (DP.to (v' := .bool false) (DP.eql (a := 11) (b := 0) rfl rfl) rfl) ?_
    refine TO.nil ?_
    refine TQ.nn ?_
    refine T.condF rfl ?_
    refine T.skip ?_
    refine TQ.nn ?_
    refine T.seq ?_
    refine T.reg ?_
    refine TO.p (DP.mv (by conv => lhs; whnf)) ?_
    refine TO.p (DP.as (by conv => lhs; whnf)) ?_
    refine TO.nil ?_
    refine TQ.nn ?_
    refine T.ret ?_
    refine TQ.ret (vs := [.int .i64 11]) (L' := [row 94 q [.pointer (some ⟨r, 0, none⟩), .int .u32 at0, .int .i64 sz, .slice (some ⟨wb, 0, none⟩) wh.length wh.length], row 5 wb ((wh).map byteV), row 63 r [.slice (some ⟨b, 0, none⟩) bs.length bs.length, .slice (some ⟨lb, 0, none⟩) lt.length lt.length], row 5 b ((bs).map byteV), row 4 lb ((lt).map boolV)]) rfl ⟨rfl, rfl⟩ ⟨rfl, rfl⟩ (by (refine Ent.imp ?_; repeat first | exact Imp.refl _ | exact Imp.nil _ | (apply Imp.pull; focus ((repeat first | exact Del.head _ _ | apply Del.tail); done)) | (apply Imp.row; focus ((repeat first | exact Del.head _ _ | apply Del.tail); done)) | apply Imp.drop))

theorem rturn21_bad (q r wb at0 sz at_ b lb : Nat) (wh : List UInt8) (bs : List UInt8) (lt : List Bool) (h0 : at0 < 4294967296) (hz : 0 < sz) (hz2 : sz ≤ 1048576) (hc : wh.length ≤ 256) (ha : at_ < 4294967296) (hbs : bs.length ≤ 1048576) (hlt : lt.length = bs.length) (hb : ∀ k, k < wh.length → at_ ≠ at0 + k * sz) :
    Sat Try.prog 64 [.pointer (some ⟨q, 0, none⟩), .int .u32 at_, .int .u8 2, .int .u8 1] [row 94 q [.pointer (some ⟨r, 0, none⟩), .int .u32 at0, .int .i64 sz, .slice (some ⟨wb, 0, none⟩) wh.length wh.length], row 5 wb ((wh).map byteV)] (fun u L' => u = .int .i64 2 ∧ L' = [row 94 q [.pointer (some ⟨r, 0, none⟩), .int .u32 at0, .int .i64 sz, .slice (some ⟨wb, 0, none⟩) wh.length wh.length], row 5 wb ((wh).map byteV)]) := by
  refine Sat.enter Try.func64 rfl Try.ntmps64 rfl (fun c R => ?_)
  try simp only [List.cons_append, List.nil_append]
  refine T.seq ?_
  refine T.reg ?_
  refine TO.p (DP.as (by conv => lhs; whnf)) ?_
  refine TO.nil ?_
  refine TQ.nn ?_
  refine T.seq ?_
  refine T.reg ?_
  refine TO.p (DP.mv (by conv => lhs; whnf)) ?_
  refine TO.p (DP.mv (by conv => lhs; whnf)) ?_
  refine TO.n (N.callF (rfind_bad q r wb at0 sz wh at_ h0 hz hz2 hc ha hb) Try.call65 ⟨rfl, rfl, trivial⟩ (by (repeat first | exact Pick.nil _ | (apply Pick.cons; focus ((repeat first | exact Del.head _ _ | apply Del.tail); done))))) ?_
  rintro u13 _ ⟨_, ⟨rfl, rfl⟩, rfl⟩
  try simp only [List.cons_append, List.nil_append]
  refine TO.p (DP.as (by conv => lhs; whnf)) ?_
  refine TO.nil ?_
  refine TQ.nn ?_
  refine T.seq ?_
  refine T.seq ?_
  refine T.reg ?_
  refine TO.p (DP.mv (by conv => lhs; whnf)) ?_
  refine TO.p (DP.to (v' := .bool true) (DP.lssI rfl rfl) rfl) ?_
  refine TO.nil ?_
  refine TQ.nn ?_
  refine T.condT rfl ?_
  refine T.seq ?_
  refine T.reg ?_
  refine TO.p (DP.as (by conv => lhs; whnf)) ?_
  refine TO.nil ?_
  refine TQ.nn ?_
  refine T.ret ?_
  refine TQ.nr ?_
  refine TQ.ret (vs := [.int .i64 2]) (L' := [_, _]) rfl ⟨rfl, rfl⟩ ⟨rfl, rfl⟩ (by (refine Ent.imp ?_; repeat first | exact Imp.refl _ | exact Imp.nil _ | (apply Imp.pull; focus ((repeat first | exact Del.head _ _ | apply Del.tail); done)) | (apply Imp.row; focus ((repeat first | exact Del.head _ _ | apply Del.tail); done)) | apply Imp.drop))

theorem rturn21_state (q r wb at0 sz at_ b lb : Nat) (wh : List UInt8) (bs : List UInt8) (lt : List Bool) (h0 : at0 < 4294967296) (hz : 0 < sz) (hz2 : sz ≤ 1048576) (hc : wh.length ≤ 256) (ha : at_ < 4294967296) (hbs : bs.length ≤ 1048576) (hlt : lt.length = bs.length) (y : UInt8) (k : Nat) (hx : wh[k]? = some y) (he : at_ = at0 + k * sz) (hy : y ≠ 2) :
    Sat Try.prog 64 [.pointer (some ⟨q, 0, none⟩), .int .u32 at_, .int .u8 2, .int .u8 1] [row 94 q [.pointer (some ⟨r, 0, none⟩), .int .u32 at0, .int .i64 sz, .slice (some ⟨wb, 0, none⟩) wh.length wh.length], row 5 wb ((wh).map byteV)] (fun u L' => u = .int .i64 3 ∧ L' = [row 94 q [.pointer (some ⟨r, 0, none⟩), .int .u32 at0, .int .i64 sz, .slice (some ⟨wb, 0, none⟩) wh.length wh.length], row 5 wb ((wh).map byteV)]) := by
  refine Sat.enter Try.func64 rfl Try.ntmps64 rfl (fun c R => ?_)
  try simp only [List.cons_append, List.nil_append]
  have hkl : k < wh.length := by
    rcases Nat.lt_or_ge k wh.length with h | h
    · exact h
    · rw [List.getElem?_eq_none h] at hx; cases hx
  refine T.seq ?_
  refine T.reg ?_
  refine TO.p (DP.as (by conv => lhs; whnf)) ?_
  refine TO.nil ?_
  refine TQ.nn ?_
  refine T.seq ?_
  refine T.reg ?_
  refine TO.p (DP.mv (by conv => lhs; whnf)) ?_
  refine TO.p (DP.mv (by conv => lhs; whnf)) ?_
  refine TO.n (N.callF (rfind_ok q r wb at0 sz wh at_ h0 hz hz2 hc ha k hkl he) Try.call65 ⟨rfl, rfl, trivial⟩ (by (repeat first | exact Pick.nil _ | (apply Pick.cons; focus ((repeat first | exact Del.head _ _ | apply Del.tail); done))))) ?_
  rintro u13 _ ⟨_, ⟨rfl, rfl⟩, rfl⟩
  try simp only [List.cons_append, List.nil_append]
  refine TO.p (DP.as (by conv => lhs; whnf)) ?_
  refine TO.nil ?_
  refine TQ.nn ?_
  refine T.seq ?_
  refine T.seq ?_
  refine T.reg ?_
  refine TO.p (DP.mv (by conv => lhs; whnf)) ?_
  refine TO.p (DP.lss (b := 0) rfl rfl) ?_
  refine TO.nil ?_
  refine TQ.nn ?_
  refine T.condD rfl (fun hc0 => ?_) (fun hc0 => ?_)
  · exact absurd hc0 (by omega)
  · refine T.skip ?_
    refine TQ.nn ?_
    refine T.seq ?_
    refine T.seq ?_
    refine T.reg ?_
    refine TO.p (DP.mv (by conv => lhs; whnf)) ?_
    refine TO.p (DP.nck rfl) ?_
    refine TO.p (DP.fa 3 rfl Try.underlying94 rfl rfl sz49) ?_
    refine TO.d (D.ldR rfl pl49 (by (repeat first | exact LMem.head _ _ | apply LMem.tail)) (by rfl)) ?_
    refine TO.p (DP.mv (by conv => lhs; whnf)) ?_
    refine TO.p (DP.to (v' := .pointer (some ⟨wb, k, none⟩)) (DP.ias rfl rfl Try.underlying49 sz5 hkl) (by simp)) ?_
    refine TO.d (D.ldR (v := byteV y) rfl pl5 (by (repeat first | exact LMem.head _ _ | apply LMem.tail)) (map_byte hx)) ?_
    refine TO.p (DP.mv (by conv => lhs; whnf)) ?_
    refine TO.p (DP.neq (b := 2) rfl rfl) ?_
    refine TO.nil ?_
    refine TQ.nn ?_
    refine T.condD rfl (fun hc1 => ?_) (fun hc1 => ?_)
    · refine T.seq ?_
      refine T.reg ?_
      refine TO.p (DP.as (by conv => lhs; whnf)) ?_
      refine TO.nil ?_
      refine TQ.nn ?_
      refine T.ret ?_
      refine TQ.nr ?_
      refine TQ.ret (vs := [.int .i64 3]) (L' := [_, _]) rfl ⟨rfl, rfl⟩ ⟨rfl, rfl⟩ (by (refine Ent.imp ?_; repeat first | exact Imp.refl _ | exact Imp.nil _ | (apply Imp.pull; focus ((repeat first | exact Del.head _ _ | apply Del.tail); done)) | (apply Imp.row; focus ((repeat first | exact Del.head _ _ | apply Del.tail); done)) | apply Imp.drop))
    · exact (hc1 (fun h => hy (UInt8.toNat_inj.1 h))).elim

theorem rturn21_ok (q r wb at0 sz at_ b lb : Nat) (wh : List UInt8) (bs : List UInt8) (lt : List Bool) (h0 : at0 < 4294967296) (hz : 0 < sz) (hz2 : sz ≤ 1048576) (hc : wh.length ≤ 256) (ha : at_ < 4294967296) (hbs : bs.length ≤ 1048576) (hlt : lt.length = bs.length) (k : Nat) (hx : wh[k]? = some 2) (he : at_ = at0 + k * sz) (hin : at_ + sz ≤ bs.length) (hs : allB lt at_ sz true = true) :
    Sat Try.prog 64 [.pointer (some ⟨q, 0, none⟩), .int .u32 at_, .int .u8 2, .int .u8 1] [row 94 q [.pointer (some ⟨r, 0, none⟩), .int .u32 at0, .int .i64 sz, .slice (some ⟨wb, 0, none⟩) wh.length wh.length], row 5 wb ((wh).map byteV), row 63 r [.slice (some ⟨b, 0, none⟩) bs.length bs.length, .slice (some ⟨lb, 0, none⟩) lt.length lt.length], row 5 b ((bs).map byteV), row 4 lb ((lt).map boolV)] (fun u L' => u = .int .i64 0 ∧ L' = [row 94 q [.pointer (some ⟨r, 0, none⟩), .int .u32 at0, .int .i64 sz, .slice (some ⟨wb, 0, none⟩) wh.length wh.length], row 5 wb ((wh.set k 1).map byteV), row 63 r [.slice (some ⟨b, 0, none⟩) bs.length bs.length, .slice (some ⟨lb, 0, none⟩) lt.length lt.length], row 5 b ((bs).map byteV), row 4 lb ((fillB lt at_ sz false).map boolV)]) := by
  refine Sat.enter Try.func64 rfl Try.ntmps64 rfl (fun c R => ?_)
  try simp only [List.cons_append, List.nil_append]
  have hkl : k < wh.length := by
    rcases Nat.lt_or_ge k wh.length with h | h
    · exact h
    · rw [List.getElem?_eq_none h] at hx; cases hx
  refine T.seq ?_
  refine T.reg ?_
  refine TO.p (DP.as (by conv => lhs; whnf)) ?_
  refine TO.nil ?_
  refine TQ.nn ?_
  refine T.seq ?_
  refine T.reg ?_
  refine TO.p (DP.mv (by conv => lhs; whnf)) ?_
  refine TO.p (DP.mv (by conv => lhs; whnf)) ?_
  refine TO.n (N.callF (rfind_ok q r wb at0 sz wh at_ h0 hz hz2 hc ha k hkl he) Try.call65 ⟨rfl, rfl, trivial⟩ (by (repeat first | exact Pick.nil _ | (apply Pick.cons; focus ((repeat first | exact Del.head _ _ | apply Del.tail); done))))) ?_
  rintro u13 _ ⟨_, ⟨rfl, rfl⟩, rfl⟩
  try simp only [List.cons_append, List.nil_append]
  refine TO.p (DP.as (by conv => lhs; whnf)) ?_
  refine TO.nil ?_
  refine TQ.nn ?_
  refine T.seq ?_
  refine T.seq ?_
  refine T.reg ?_
  refine TO.p (DP.mv (by conv => lhs; whnf)) ?_
  refine TO.p (DP.lss (b := 0) rfl rfl) ?_
  refine TO.nil ?_
  refine TQ.nn ?_
  refine T.condD rfl (fun hc0 => ?_) (fun hc0 => ?_)
  · exact absurd hc0 (by omega)
  · refine T.skip ?_
    refine TQ.nn ?_
    refine T.seq ?_
    refine T.seq ?_
    refine T.reg ?_
    refine TO.p (DP.mv (by conv => lhs; whnf)) ?_
    refine TO.p (DP.nck rfl) ?_
    refine TO.p (DP.fa 3 rfl Try.underlying94 rfl rfl sz49) ?_
    refine TO.d (D.ldR rfl pl49 (by (repeat first | exact LMem.head _ _ | apply LMem.tail)) (by rfl)) ?_
    refine TO.p (DP.mv (by conv => lhs; whnf)) ?_
    refine TO.p (DP.to (v' := .pointer (some ⟨wb, k, none⟩)) (DP.ias rfl rfl Try.underlying49 sz5 hkl) (by simp)) ?_
    refine TO.d (D.ldR (v := byteV 2) rfl pl5 (by (repeat first | exact LMem.head _ _ | apply LMem.tail)) (map_byte hx)) ?_
    refine TO.p (DP.mv (by conv => lhs; whnf)) ?_
    refine TO.p (DP.to (v' := .bool false) (DP.neq (a := 2) (b := 2) rfl rfl) rfl) ?_
    refine TO.nil ?_
    refine TQ.nn ?_
    refine T.condF rfl ?_
    refine T.skip ?_
    refine TQ.nn ?_
    refine T.seq ?_
    refine T.reg ?_
    refine TO.p (DP.as (by conv => lhs; whnf)) ?_
    refine TO.nil ?_
    refine TQ.nn ?_
    refine T.seq ?_
    refine T.seq ?_
    refine T.reg ?_
    refine TO.p (DP.mv (by conv => lhs; whnf)) ?_
    refine TO.p (DP.to (v' := .bool false) (DP.eql (a := 1) (b := 2) rfl rfl) rfl) ?_
    refine TO.nil ?_
    refine TQ.nn ?_
    refine T.condF rfl ?_
    refine T.seq ?_
    refine T.reg ?_
    refine TO.p (DP.mv (by conv => lhs; whnf)) ?_
    refine TO.p (DP.to (v' := .bool true) (DP.eql (a := 2) (b := 2) rfl rfl) rfl) ?_
    refine TO.nil ?_
    refine TQ.nn ?_
    refine T.condT rfl ?_
    refine T.drawL [11] mixed (by repeat first | exact Calm.rt | apply Calm.t | apply Calm.b | apply Calm.l | apply Calm.ct) ?_
    refine TR.p 0 rfl (by kernel_rfl) (DP.mv (by conv => lhs; whnf)) ?_
    refine TR.p 1 rfl (by kernel_rfl) (DP.nck rfl) ?_
    refine TR.p 2 rfl (by kernel_rfl) (DP.fa 0 rfl Try.underlying94 rfl rfl sz55) ?_
    refine TR.d 3 rfl (by kernel_rfl) (by kernel_rfl) (by (refine Ent.imp ?_; repeat first | exact Imp.refl _ | exact Imp.nil _ | (apply Imp.pull; focus ((repeat first | exact Del.head _ _ | apply Del.tail); done)) | (apply Imp.row; focus ((repeat first | exact Del.head _ _ | apply Del.tail); done)) | apply Imp.drop)) (D.ldR rfl pl55 (by (repeat first | exact LMem.head _ _ | apply LMem.tail)) (by rfl)) ?_
    refine TR.p 4 rfl (by kernel_rfl) (DP.mv (by conv => lhs; whnf)) ?_
    refine TR.p 5 rfl (by kernel_rfl) (DP.mv (by conv => lhs; whnf)) ?_
    refine TR.p 6 rfl (by kernel_rfl) (DP.nck rfl) ?_
    refine TR.p 7 rfl (by kernel_rfl) (DP.fa 2 rfl Try.underlying94 rfl rfl sz3) ?_
    refine TR.d 8 rfl (by kernel_rfl) (by kernel_rfl) (by (refine Ent.imp ?_; repeat first | exact Imp.refl _ | exact Imp.nil _ | (apply Imp.pull; focus ((repeat first | exact Del.head _ _ | apply Del.tail); done)) | (apply Imp.row; focus ((repeat first | exact Del.head _ _ | apply Del.tail); done)) | apply Imp.drop)) (D.ldR rfl pl3 (by (repeat first | exact LMem.head _ _ | apply LMem.tail)) (by rfl)) ?_
    refine TR.p 9 rfl (by kernel_rfl) (DP.cv rfl is3 Try.underlying30 (l := 4294967296) rfl (by omega)) ?_
    refine TR.p 10 rfl (by kernel_rfl) (DP.bdL (vs := [(0, _), (1, _)]) (us := [_, _]) ⟨rfl, (by conv => lhs; whnf), rfl, (by conv => lhs; whnf), trivial⟩ pc42 zr42 rfl) ?_
    refine TR.n 11 (by kernel_rfl) rfl (N.callF (rback_ok r b lb at_ sz bs lt hbs hlt ha (by omega) hz hin hs) Try.call61 ⟨rfl, rfl, trivial⟩ (by (repeat first | exact Pick.nil _ | (apply Pick.cons; focus ((repeat first | exact Del.head _ _ | apply Del.tail); done))))) ?_
    rintro u52 _ ⟨_, ⟨rfl, rfl⟩, rfl⟩
    try simp only [List.cons_append, List.nil_append]
    refine ⟨.inl rfl, ?_⟩
    refine TR.p 12 rfl (by kernel_rfl) (DP.as (by conv => lhs; whnf)) ?_
    refine TR.done (by kernel_rfl) ?_
    refine TQ.nn ?_
    refine T.seq ?_
    refine T.seq ?_
    refine T.reg ?_
    refine TO.p (DP.mv (by conv => lhs; whnf)) ?_
    refine TO.p (DP.to (v' := .bool true) (DP.eql (a := 0) (b := 0) rfl rfl) rfl) ?_
    refine TO.nil ?_
    refine TQ.nn ?_
    refine T.condT rfl ?_
    refine T.reg ?_
    refine TO.p (DP.mv (by conv => lhs; whnf)) ?_
    refine TO.p (DP.nck rfl) ?_
    refine TO.p (DP.fa 3 rfl Try.underlying94 rfl rfl sz49) ?_
    refine TO.d (D.ldR rfl pl49 (by (repeat first | exact LMem.head _ _ | apply LMem.tail)) (by rfl)) ?_
    refine TO.p (DP.mv (by conv => lhs; whnf)) ?_
    refine TO.p (DP.mv (by conv => lhs; whnf)) ?_
    refine TO.p (DP.to (v' := .pointer (some ⟨wb, k, none⟩)) (DP.ias rfl rfl Try.underlying49 sz5 hkl) (by simp)) ?_
    refine TO.n0 (N.st (et := 5) rfl (by conv => lhs; whnf) sz5 (by (repeat first | exact Put.head _ _ _ | apply Put.tail)) (by rw [List.length_map]; exact hkl) rfl) ?_
    rintro _ _ ⟨rfl, rfl⟩
    rw [show (wh.map byteV).set k (.int .u8 1) = (wh.set k 1).map byteV by rw [List.map_set]; rfl]
    refine TO.nil ?_
    refine TQ.nn ?_
    refine T.seq ?_
    refine T.reg ?_
    refine TO.p (DP.mv (by conv => lhs; whnf)) ?_
    refine TO.p (DP.as (by conv => lhs; whnf)) ?_
    refine TO.nil ?_
    refine TQ.nn ?_
    refine T.ret ?_
    refine TQ.ret (vs := [.int .i64 0]) (L' := [row 94 q [.pointer (some ⟨r, 0, none⟩), .int .u32 at0, .int .i64 sz, .slice (some ⟨wb, 0, none⟩) wh.length wh.length], row 5 wb ((wh.set k 1).map byteV), row 63 r [.slice (some ⟨b, 0, none⟩) bs.length bs.length, .slice (some ⟨lb, 0, none⟩) lt.length lt.length], row 5 b ((bs).map byteV), row 4 lb ((fillB lt at_ sz false).map boolV)]) rfl ⟨rfl, rfl⟩ ⟨rfl, rfl⟩ (by (refine Ent.imp ?_; repeat first | exact Imp.refl _ | exact Imp.nil _ | (apply Imp.pull; focus ((repeat first | exact Del.head _ _ | apply Del.tail); done)) | (apply Imp.row; focus ((repeat first | exact Del.head _ _ | apply Del.tail); done)) | apply Imp.drop))

theorem rturn21_ref (q r wb at0 sz at_ b lb : Nat) (wh : List UInt8) (bs : List UInt8) (lt : List Bool) (h0 : at0 < 4294967296) (hz : 0 < sz) (hz2 : sz ≤ 1048576) (hc : wh.length ≤ 256) (ha : at_ < 4294967296) (hbs : bs.length ≤ 1048576) (hlt : lt.length = bs.length) (k : Nat) (hx : wh[k]? = some 2) (he : at_ = at0 + k * sz) (hin : at_ + sz ≤ bs.length) (hs : allB lt at_ sz true = false) :
    Sat Try.prog 64 [.pointer (some ⟨q, 0, none⟩), .int .u32 at_, .int .u8 2, .int .u8 1] [row 94 q [.pointer (some ⟨r, 0, none⟩), .int .u32 at0, .int .i64 sz, .slice (some ⟨wb, 0, none⟩) wh.length wh.length], row 5 wb ((wh).map byteV), row 63 r [.slice (some ⟨b, 0, none⟩) bs.length bs.length, .slice (some ⟨lb, 0, none⟩) lt.length lt.length], row 5 b ((bs).map byteV), row 4 lb ((lt).map boolV)] (fun u L' => u = .int .i64 12 ∧ L' = [row 94 q [.pointer (some ⟨r, 0, none⟩), .int .u32 at0, .int .i64 sz, .slice (some ⟨wb, 0, none⟩) wh.length wh.length], row 5 wb ((wh).map byteV), row 63 r [.slice (some ⟨b, 0, none⟩) bs.length bs.length, .slice (some ⟨lb, 0, none⟩) lt.length lt.length], row 5 b ((bs).map byteV), row 4 lb ((lt).map boolV)]) := by
  refine Sat.enter Try.func64 rfl Try.ntmps64 rfl (fun c R => ?_)
  try simp only [List.cons_append, List.nil_append]
  have hkl : k < wh.length := by
    rcases Nat.lt_or_ge k wh.length with h | h
    · exact h
    · rw [List.getElem?_eq_none h] at hx; cases hx
  refine T.seq ?_
  refine T.reg ?_
  refine TO.p (DP.as (by conv => lhs; whnf)) ?_
  refine TO.nil ?_
  refine TQ.nn ?_
  refine T.seq ?_
  refine T.reg ?_
  refine TO.p (DP.mv (by conv => lhs; whnf)) ?_
  refine TO.p (DP.mv (by conv => lhs; whnf)) ?_
  refine TO.n (N.callF (rfind_ok q r wb at0 sz wh at_ h0 hz hz2 hc ha k hkl he) Try.call65 ⟨rfl, rfl, trivial⟩ (by (repeat first | exact Pick.nil _ | (apply Pick.cons; focus ((repeat first | exact Del.head _ _ | apply Del.tail); done))))) ?_
  rintro u13 _ ⟨_, ⟨rfl, rfl⟩, rfl⟩
  try simp only [List.cons_append, List.nil_append]
  refine TO.p (DP.as (by conv => lhs; whnf)) ?_
  refine TO.nil ?_
  refine TQ.nn ?_
  refine T.seq ?_
  refine T.seq ?_
  refine T.reg ?_
  refine TO.p (DP.mv (by conv => lhs; whnf)) ?_
  refine TO.p (DP.lss (b := 0) rfl rfl) ?_
  refine TO.nil ?_
  refine TQ.nn ?_
  refine T.condD rfl (fun hc0 => ?_) (fun hc0 => ?_)
  · exact absurd hc0 (by omega)
  · refine T.skip ?_
    refine TQ.nn ?_
    refine T.seq ?_
    refine T.seq ?_
    refine T.reg ?_
    refine TO.p (DP.mv (by conv => lhs; whnf)) ?_
    refine TO.p (DP.nck rfl) ?_
    refine TO.p (DP.fa 3 rfl Try.underlying94 rfl rfl sz49) ?_
    refine TO.d (D.ldR rfl pl49 (by (repeat first | exact LMem.head _ _ | apply LMem.tail)) (by rfl)) ?_
    refine TO.p (DP.mv (by conv => lhs; whnf)) ?_
    refine TO.p (DP.to (v' := .pointer (some ⟨wb, k, none⟩)) (DP.ias rfl rfl Try.underlying49 sz5 hkl) (by simp)) ?_
    refine TO.d (D.ldR (v := byteV 2) rfl pl5 (by (repeat first | exact LMem.head _ _ | apply LMem.tail)) (map_byte hx)) ?_
    refine TO.p (DP.mv (by conv => lhs; whnf)) ?_
    refine TO.p (DP.to (v' := .bool false) (DP.neq (a := 2) (b := 2) rfl rfl) rfl) ?_
    refine TO.nil ?_
    refine TQ.nn ?_
    refine T.condF rfl ?_
    refine T.skip ?_
    refine TQ.nn ?_
    refine T.seq ?_
    refine T.reg ?_
    refine TO.p (DP.as (by conv => lhs; whnf)) ?_
    refine TO.nil ?_
    refine TQ.nn ?_
    refine T.seq ?_
    refine T.seq ?_
    refine T.reg ?_
    refine TO.p (DP.mv (by conv => lhs; whnf)) ?_
    refine TO.p (DP.to (v' := .bool false) (DP.eql (a := 1) (b := 2) rfl rfl) rfl) ?_
    refine TO.nil ?_
    refine TQ.nn ?_
    refine T.condF rfl ?_
    refine T.seq ?_
    refine T.reg ?_
    refine TO.p (DP.mv (by conv => lhs; whnf)) ?_
    refine TO.p (DP.to (v' := .bool true) (DP.eql (a := 2) (b := 2) rfl rfl) rfl) ?_
    refine TO.nil ?_
    refine TQ.nn ?_
    refine T.condT rfl ?_
    refine T.drawL [11] mixed (by repeat first | exact Calm.rt | apply Calm.t | apply Calm.b | apply Calm.l | apply Calm.ct) ?_
    refine TR.p 0 rfl (by kernel_rfl) (DP.mv (by conv => lhs; whnf)) ?_
    refine TR.p 1 rfl (by kernel_rfl) (DP.nck rfl) ?_
    refine TR.p 2 rfl (by kernel_rfl) (DP.fa 0 rfl Try.underlying94 rfl rfl sz55) ?_
    refine TR.d 3 rfl (by kernel_rfl) (by kernel_rfl) (by (refine Ent.imp ?_; repeat first | exact Imp.refl _ | exact Imp.nil _ | (apply Imp.pull; focus ((repeat first | exact Del.head _ _ | apply Del.tail); done)) | (apply Imp.row; focus ((repeat first | exact Del.head _ _ | apply Del.tail); done)) | apply Imp.drop)) (D.ldR rfl pl55 (by (repeat first | exact LMem.head _ _ | apply LMem.tail)) (by rfl)) ?_
    refine TR.p 4 rfl (by kernel_rfl) (DP.mv (by conv => lhs; whnf)) ?_
    refine TR.p 5 rfl (by kernel_rfl) (DP.mv (by conv => lhs; whnf)) ?_
    refine TR.p 6 rfl (by kernel_rfl) (DP.nck rfl) ?_
    refine TR.p 7 rfl (by kernel_rfl) (DP.fa 2 rfl Try.underlying94 rfl rfl sz3) ?_
    refine TR.d 8 rfl (by kernel_rfl) (by kernel_rfl) (by (refine Ent.imp ?_; repeat first | exact Imp.refl _ | exact Imp.nil _ | (apply Imp.pull; focus ((repeat first | exact Del.head _ _ | apply Del.tail); done)) | (apply Imp.row; focus ((repeat first | exact Del.head _ _ | apply Del.tail); done)) | apply Imp.drop)) (D.ldR rfl pl3 (by (repeat first | exact LMem.head _ _ | apply LMem.tail)) (by rfl)) ?_
    refine TR.p 9 rfl (by kernel_rfl) (DP.cv rfl is3 Try.underlying30 (l := 4294967296) rfl (by omega)) ?_
    refine TR.p 10 rfl (by kernel_rfl) (DP.bdL (vs := [(0, _), (1, _)]) (us := [_, _]) ⟨rfl, (by conv => lhs; whnf), rfl, (by conv => lhs; whnf), trivial⟩ pc42 zr42 rfl) ?_
    refine TR.n 11 (by kernel_rfl) rfl (N.callF (rback_bad r b lb at_ sz bs lt hbs hlt ha (by omega) hz hin hs) Try.call61 ⟨rfl, rfl, trivial⟩ (by (repeat first | exact Pick.nil _ | (apply Pick.cons; focus ((repeat first | exact Del.head _ _ | apply Del.tail); done))))) ?_
    rintro u52 _ ⟨_, ⟨rfl, rfl⟩, rfl⟩
    try simp only [List.cons_append, List.nil_append]
    refine ⟨.inl rfl, ?_⟩
    refine TR.p 12 rfl (by kernel_rfl) (DP.as (by conv => lhs; whnf)) ?_
    refine TR.done (by kernel_rfl) ?_
    refine TQ.nn ?_
    refine T.seq ?_
    refine T.seq ?_
    refine T.reg ?_
    refine TO.p (DP.mv (by conv => lhs; whnf)) ?_
    refine TO.p (DP.to (v' := .bool false) (DP.eql (a := 12) (b := 0) rfl rfl) rfl) ?_
    refine TO.nil ?_
    refine TQ.nn ?_
    refine T.condF rfl ?_
    refine T.skip ?_
    refine TQ.nn ?_
    refine T.seq ?_
    refine T.reg ?_
    refine TO.p (DP.mv (by conv => lhs; whnf)) ?_
    refine TO.p (DP.as (by conv => lhs; whnf)) ?_
    refine TO.nil ?_
    refine TQ.nn ?_
    refine T.ret ?_
    refine TQ.ret (vs := [.int .i64 12]) (L' := [row 94 q [.pointer (some ⟨r, 0, none⟩), .int .u32 at0, .int .i64 sz, .slice (some ⟨wb, 0, none⟩) wh.length wh.length], row 5 wb ((wh).map byteV), row 63 r [.slice (some ⟨b, 0, none⟩) bs.length bs.length, .slice (some ⟨lb, 0, none⟩) lt.length lt.length], row 5 b ((bs).map byteV), row 4 lb ((lt).map boolV)]) rfl ⟨rfl, rfl⟩ ⟨rfl, rfl⟩ (by (refine Ent.imp ?_; repeat first | exact Imp.refl _ | exact Imp.nil _ | (apply Imp.pull; focus ((repeat first | exact Del.head _ _ | apply Del.tail); done)) | (apply Imp.row; focus ((repeat first | exact Del.head _ _ | apply Del.tail); done)) | apply Imp.drop))
end Go.Proofs.Ytpidkdkbgjnhlaa
