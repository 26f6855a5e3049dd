/- Lemmas for the proofs of this seat: no statement of the seat is claimed here. -/
import Derived.Test.YtpidkdkbgjnhlaaW8
set_option linter.all false
namespace Go.Proofs.Ytpidkdkbgjnhlaa
open Go Pw
set_option maxRecDepth 20000
set_option maxHeartbeats 4000000
theorem get_ok (q p wb at0 sz : Nat) (wh : List UInt8) (k : Nat) (hx : wh[k]? = some 0) (hbf : ∀ j, j < k → wh[j]? ≠ some 0) (hl : wh.length ≤ 256) (hr : at0 + wh.length * sz ≤ 1048576) :
    Sat Try.prog 20 [.pointer (some ⟨q, 0, none⟩)] [row 89 q [.pointer (some ⟨p, 0, none⟩), .int .u32 at0, .int .i64 sz, .slice (some ⟨wb, 0, none⟩) wh.length wh.length], row 5 wb (wh.map byteV)] (fun u L' => u = .tuple #[.int .u32 (at0 + k * sz : Nat), .int .i64 0] ∧ L' = [row 89 q [.pointer (some ⟨p, 0, none⟩), .int .u32 at0, .int .i64 sz, .slice (some ⟨wb, 0, none⟩) wh.length wh.length], row 5 wb ((wh.set k 1).map byteV)]) := by
  refine Sat.enter Try.func20 rfl Try.ntmps20 rfl (fun c R => ?_)
  try simp only [List.cons_append, List.nil_append]
  have hkl : k < wh.length := by rcases Nat.lt_or_ge k wh.length with h | h; exact h; rw [List.getElem?_eq_none h] at hx; cases hx
  have hks := Nat.mul_le_mul_right sz (Nat.succ_le_of_lt hkl)
  rw [Nat.succ_mul] at hks
  refine T.seq ?_
  refine T.reg ?_
  refine TO.p (DP.as (by conv => lhs; whnf)) ?_
  refine TO.p (DP.as (by conv => lhs; whnf)) ?_
  refine TO.nil ?_
  refine TQ.nn ?_
  refine T.seq ?_
  refine T.seq ?_
  refine T.reg ?_
  refine TO.p (DP.mv (by conv => lhs; whnf)) ?_
  refine TO.p (DP.peqS rfl rfl Try.underlying46) ?_
  refine TO.nil ?_
  refine TQ.nn ?_
  refine T.condF rfl ?_
  refine T.skip ?_
  refine TQ.nn ?_
  refine T.seq ?_
  refine T.reg ?_
  refine TO.p (DP.mv (by conv => lhs; whnf)) ?_
  refine TO.p (DP.nck rfl) ?_
  refine TO.p (DP.fa 3 rfl Try.underlying89 rfl rfl sz49) ?_
  refine TO.d (D.ldR rfl pl49 (by (repeat first | exact LMem.head _ _ | apply LMem.tail)) (by rfl)) ?_
  refine TO.n (N.callF (index_some wb wh 0 k hx hbf (by omega)) Try.call48 ⟨rfl, rfl, trivial⟩ (by (repeat first | exact Pick.nil _ | (apply Pick.cons; focus ((repeat first | exact Del.head _ _ | apply Del.tail); done))))) ?_
  rintro u11 _ ⟨_, ⟨rfl, rfl⟩, rfl⟩
  try simp only [List.cons_append, List.nil_append]
  refine TO.p (DP.as (by conv => lhs; whnf)) ?_
  refine TO.nil ?_
  refine TQ.nn ?_
  refine T.seq ?_
  refine T.seq ?_
  refine T.reg ?_
  refine TO.p (DP.mv (by conv => lhs; whnf)) ?_
  refine TO.p (DP.lss (b := 0) rfl rfl) ?_
  refine TO.nil ?_
  refine TQ.nn ?_
  refine T.condD rfl (fun hc1 => ?_) (fun hc1 => ?_)
  · exact absurd hc1 (by omega)
  · refine T.skip ?_
    refine TQ.nn ?_
    refine T.seq ?_
    refine T.reg ?_
    refine TO.p (DP.mv (by conv => lhs; whnf)) ?_
    refine TO.p (DP.nck rfl) ?_
    refine TO.p (DP.fa 3 rfl Try.underlying89 rfl rfl sz49) ?_
    refine TO.d (D.ldR rfl pl49 (by (repeat first | exact LMem.head _ _ | apply LMem.tail)) (by rfl)) ?_
    refine TO.p (DP.mv (by conv => lhs; whnf)) ?_
    refine TO.p (DP.to (v' := .pointer (some ⟨wb, k, none⟩)) (DP.ias rfl rfl Try.underlying49 sz5 hkl) (by simp)) ?_
    refine TO.n0 (N.st (et := 5) rfl (by conv => lhs; whnf) sz5 (by (repeat first | exact Put.head _ _ _ | apply Put.tail)) (by rw [List.length_map]; exact hkl) rfl) ?_
    rintro _ _ ⟨rfl, rfl⟩
    rw [show (wh.map byteV).set k (.int .u8 1) = (wh.set k 1).map byteV by rw [List.map_set]; rfl]
    refine TO.nil ?_
    refine TQ.nn ?_
    refine T.seq ?_
    refine T.drawL [] mixed (by repeat first | exact Calm.rt | apply Calm.t | apply Calm.b | apply Calm.l | apply Calm.ct) ?_
    refine TR.p 0 rfl (by kernel_rfl) (DP.mv (by conv => lhs; whnf)) ?_
    refine TR.p 1 rfl (by kernel_rfl) (DP.nck rfl) ?_
    refine TR.p 2 rfl (by kernel_rfl) (DP.fa 1 rfl Try.underlying89 rfl rfl sz30) ?_
    refine TR.d 3 rfl (by kernel_rfl) (by kernel_rfl) (by (refine Ent.imp ?_; repeat first | exact Imp.refl _ | exact Imp.nil _ | (apply Imp.pull; focus ((repeat first | exact Del.head _ _ | apply Del.tail); done)) | (apply Imp.row; focus ((repeat first | exact Del.head _ _ | apply Del.tail); done)) | apply Imp.drop)) (D.ldR rfl pl30 (by (repeat first | exact LMem.head _ _ | apply LMem.tail)) (by rfl)) ?_
    refine TR.p 4 rfl (by kernel_rfl) (DP.mv (by conv => lhs; whnf)) ?_
    refine TR.p 5 rfl (by kernel_rfl) (DP.mv (by conv => lhs; whnf)) ?_
    refine TR.p 6 rfl (by kernel_rfl) (DP.nck rfl) ?_
    refine TR.p 7 rfl (by kernel_rfl) (DP.fa 2 rfl Try.underlying89 rfl rfl sz3) ?_
    refine TR.d 8 rfl (by kernel_rfl) (by kernel_rfl) (by (refine Ent.imp ?_; repeat first | exact Imp.refl _ | exact Imp.nil _ | (apply Imp.pull; focus ((repeat first | exact Del.head _ _ | apply Del.tail); done)) | (apply Imp.row; focus ((repeat first | exact Del.head _ _ | apply Del.tail); done)) | apply Imp.drop)) (D.ldR rfl pl3 (by (repeat first | exact LMem.head _ _ | apply LMem.tail)) (by rfl)) ?_
    refine TR.p 9 rfl (by kernel_rfl) (DP.mul rfl rfl (l := 9223372036854775808) rfl (by omega)) ?_
    refine TR.p 10 rfl (by kernel_rfl) (DP.cv rfl is3 Try.underlying30 (l := 4294967296) rfl (by omega)) ?_
    refine TR.p 11 rfl (by kernel_rfl) (DP.add rfl rfl (l := 4294967296) rfl (by omega)) ?_
    refine TR.p 12 rfl (by kernel_rfl) (DP.as (by conv => lhs; whnf)) ?_
    refine TR.p 13 rfl (by kernel_rfl) (DP.as (by conv => lhs; whnf)) ?_
    refine TR.done (by kernel_rfl) ?_
    refine TQ.nn ?_
    refine T.ret ?_
    refine TQ.ret (vs := [.int .u32 (at0 + k * sz : Nat), .int .i64 0]) (L' := [row 89 q [.pointer (some ⟨p, 0, none⟩), .int .u32 at0, .int .i64 sz, .slice (some ⟨wb, 0, none⟩) wh.length wh.length], row 5 wb ((wh.set k 1).map byteV)]) rfl ⟨rfl, rfl, rfl⟩ ⟨rfl, rfl⟩ (by (refine Ent.imp ?_; repeat first | exact Imp.refl _ | exact Imp.nil _ | (apply Imp.pull; focus ((repeat first | exact Del.head _ _ | apply Del.tail); done)) | (apply Imp.row; focus ((repeat first | exact Del.head _ _ | apply Del.tail); done)) | apply Imp.drop))

theorem get_full (q p wb at0 sz : Nat) (wh : List UInt8) (hn : 0 ∉ wh) (hl : wh.length ≤ 256) :
    Sat Try.prog 20 [.pointer (some ⟨q, 0, none⟩)] [row 89 q [.pointer (some ⟨p, 0, none⟩), .int .u32 at0, .int .i64 sz, .slice (some ⟨wb, 0, none⟩) wh.length wh.length], row 5 wb (wh.map byteV)] (fun u L' => u = .tuple #[.int .u32 (0 : Nat), .int .i64 6] ∧ L' = [row 89 q [.pointer (some ⟨p, 0, none⟩), .int .u32 at0, .int .i64 sz, .slice (some ⟨wb, 0, none⟩) wh.length wh.length], row 5 wb (wh.map byteV)]) := by
  refine Sat.enter Try.func20 rfl Try.ntmps20 rfl (fun c R => ?_)
  try simp only [List.cons_append, List.nil_append]
  refine T.seq ?_
  refine T.reg ?_
  refine TO.p (DP.as (by conv => lhs; whnf)) ?_
  refine TO.p (DP.as (by conv => lhs; whnf)) ?_
  refine TO.nil ?_
  refine TQ.nn ?_
  refine T.seq ?_
  refine T.seq ?_
  refine T.reg ?_
  refine TO.p (DP.mv (by conv => lhs; whnf)) ?_
  refine TO.p (DP.peqS rfl rfl Try.underlying46) ?_
  refine TO.nil ?_
  refine TQ.nn ?_
  refine T.condF rfl ?_
  refine T.skip ?_
  refine TQ.nn ?_
  refine T.seq ?_
  refine T.reg ?_
  refine TO.p (DP.mv (by conv => lhs; whnf)) ?_
  refine TO.p (DP.nck rfl) ?_
  refine TO.p (DP.fa 3 rfl Try.underlying89 rfl rfl sz49) ?_
  refine TO.d (D.ldR rfl pl49 (by (repeat first | exact LMem.head _ _ | apply LMem.tail)) (by rfl)) ?_
  refine TO.n (N.callF (index_none wb wh 0 hn (by omega)) Try.call48 ⟨rfl, rfl, trivial⟩ (by (repeat first | exact Pick.nil _ | (apply Pick.cons; focus ((repeat first | exact Del.head _ _ | apply Del.tail); done))))) ?_
  rintro u11 _ ⟨_, ⟨rfl, rfl⟩, rfl⟩
  try simp only [List.cons_append, List.nil_append]
  refine TO.p (DP.as (by conv => lhs; whnf)) ?_
  refine TO.nil ?_
  refine TQ.nn ?_
  refine T.seq ?_
  refine T.seq ?_
  refine T.reg ?_
  refine TO.p (DP.mv (by conv => lhs; whnf)) ?_
  refine TO.p (DP.lssI rfl rfl) ?_
  refine TO.nil ?_
  refine TQ.nn ?_
  refine T.condD rfl (fun hc1 => ?_) (fun hc1 => ?_)
  · refine T.seq ?_
    refine T.reg ?_
    refine TO.p (DP.as (by conv => lhs; whnf)) ?_
    refine TO.p (DP.as (by conv => lhs; whnf)) ?_
    refine TO.nil ?_
    refine TQ.nn ?_
    refine T.ret ?_
    refine TQ.nr ?_
    refine TQ.ret (vs := [.int .u32 (0 : Nat), .int .i64 6]) (L' := [_, _]) rfl ⟨rfl, rfl, rfl⟩ ⟨rfl, rfl⟩ (by (refine Ent.imp ?_; repeat first | exact Imp.refl _ | exact Imp.nil _ | (apply Imp.pull; focus ((repeat first | exact Del.head _ _ | apply Del.tail); done)) | (apply Imp.row; focus ((repeat first | exact Del.head _ _ | apply Del.tail); done)) | apply Imp.drop))
  · exact absurd (by decide) hc1

theorem get_nil  :
    Sat Try.prog 20 [.pointer none] [] (fun u L' => u = .tuple #[.int .u32 (0 : Nat), .int .i64 1] ∧ L' = []) := by
  refine Sat.enter Try.func20 rfl Try.ntmps20 rfl (fun c R => ?_)
  try simp only [List.cons_append, List.nil_append]
  refine T.seq ?_
  refine T.reg ?_
  refine TO.p (DP.as (by conv => lhs; whnf)) ?_
  refine TO.p (DP.as (by conv => lhs; whnf)) ?_
  refine TO.nil ?_
  refine TQ.nn ?_
  refine T.seq ?_
  refine T.seq ?_
  refine T.reg ?_
  refine TO.p (DP.mv (by conv => lhs; whnf)) ?_
  refine TO.p (DP.peq0 rfl rfl Try.underlying46) ?_
  refine TO.nil ?_
  refine TQ.nn ?_
  refine T.condT rfl ?_
  refine T.seq ?_
  refine T.reg ?_
  refine TO.p (DP.as (by conv => lhs; whnf)) ?_
  refine TO.p (DP.as (by conv => lhs; whnf)) ?_
  refine TO.nil ?_
  refine TQ.nn ?_
  refine T.ret ?_
  refine TQ.nr ?_
  refine TQ.ret (vs := [.int .u32 (0 : Nat), .int .i64 1]) (L' := []) rfl ⟨rfl, rfl, rfl⟩ ⟨rfl, rfl⟩ (by (refine Ent.imp ?_; repeat first | exact Imp.refl _ | exact Imp.nil _ | (apply Imp.pull; focus ((repeat first | exact Del.head _ _ | apply Del.tail); done)) | (apply Imp.row; focus ((repeat first | exact Del.head _ _ | apply Del.tail); done)) | apply Imp.drop))

theorem turn_bad (q p wb at0 sz at_ : Nat) (wh : List UInt8) (fr to fv : Value) (h0 : at0 < 4294967296) (hz : 0 < sz) (hz2 : sz ≤ 1048576) (hc : wh.length ≤ 256) (ha : at_ < 4294967296) (hb : ∀ k, k < wh.length → at_ ≠ at0 + k * sz) :
    Sat Try.prog 49 [.pointer (some ⟨q, 0, none⟩), .int .u32 at_, fr, to, fv] [row 89 q [.pointer (some ⟨p, 0, none⟩), .int .u32 at0, .int .i64 sz, .slice (some ⟨wb, 0, none⟩) wh.length wh.length], row 5 wb (wh.map byteV)] (fun u L' => u = .int .i64 2 ∧ L' = [row 89 q [.pointer (some ⟨p, 0, none⟩), .int .u32 at0, .int .i64 sz, .slice (some ⟨wb, 0, none⟩) wh.length wh.length], row 5 wb (wh.map byteV)]) := by
  refine Sat.enter Try.func49 rfl Try.ntmps49 rfl (fun c R => ?_)
  try simp only [List.cons_append, List.nil_append]
  refine T.seq ?_
  refine T.reg ?_
  refine TO.p (DP.as (by conv => lhs; whnf)) ?_
  refine TO.nil ?_
  refine TQ.nn ?_
  refine T.seq ?_
  refine T.reg ?_
  refine TO.p (DP.mv (by conv => lhs; whnf)) ?_
  refine TO.p (DP.mv (by conv => lhs; whnf)) ?_
  refine TO.n (N.callF (find_bad q p wb at0 sz wh.length at_ h0 hz hz2 hc ha hb) Try.call69 ⟨rfl, rfl, trivial⟩ (by (repeat first | exact Pick.nil _ | (apply Pick.cons; focus ((repeat first | exact Del.head _ _ | apply Del.tail); done))))) ?_
  rintro u17 _ ⟨_, ⟨rfl, rfl⟩, rfl⟩
  try simp only [List.cons_append, List.nil_append]
  refine TO.p (DP.mv (by conv => lhs; whnf)) ?_
  refine TO.p (DP.ex rfl rfl) ?_
  refine TO.p (DP.ex rfl rfl) ?_
  refine TO.p (DP.as (by conv => lhs; whnf)) ?_
  refine TO.p (DP.as (by conv => lhs; whnf)) ?_
  refine TO.nil ?_
  refine TQ.nn ?_
  refine T.seq ?_
  refine T.block ?_
  refine T.seq ?_
  refine T.reg ?_
  refine TO.p (DP.mv (by conv => lhs; whnf)) ?_
  refine TO.p (DP.neq (a := 2) (b := 0) rfl rfl) ?_
  refine TO.p (DP.as (by conv => lhs; whnf)) ?_
  refine TO.nil ?_
  refine TQ.nn ?_
  refine T.condD rfl (fun hc0 => ?_) (fun hc0 => ?_)
  · refine T.seq ?_
    refine T.reg ?_
    refine TO.p (DP.mv (by conv => lhs; whnf)) ?_
    refine TO.p (DP.as (by conv => lhs; whnf)) ?_
    refine TO.nil ?_
    refine TQ.nn ?_
    refine T.ret ?_
    refine TQ.br ?_
    refine TQ.nr ?_
    refine TQ.ret (vs := [.int .i64 2]) (L' := [_, _]) rfl ⟨rfl, rfl⟩ ⟨rfl, rfl⟩ (by (refine Ent.imp ?_; repeat first | exact Imp.refl _ | exact Imp.nil _ | (apply Imp.pull; focus ((repeat first | exact Del.head _ _ | apply Del.tail); done)) | (apply Imp.row; focus ((repeat first | exact Del.head _ _ | apply Del.tail); done)) | apply Imp.drop))
  · exact absurd (by decide) hc0

theorem turn_nil (at_ : Nat) (fr to fv : Value) :
    Sat Try.prog 49 [.pointer none, .int .u32 at_, fr, to, fv] [] (fun u L' => u = .int .i64 1 ∧ L' = []) := by
  refine Sat.enter Try.func49 rfl Try.ntmps49 rfl (fun c R => ?_)
  try simp only [List.cons_append, List.nil_append]
  refine T.seq ?_
  refine T.reg ?_
  refine TO.p (DP.as (by conv => lhs; whnf)) ?_
  refine TO.nil ?_
  refine TQ.nn ?_
  refine T.seq ?_
  refine T.reg ?_
  refine TO.p (DP.mv (by conv => lhs; whnf)) ?_
  refine TO.p (DP.mv (by conv => lhs; whnf)) ?_
  refine TO.n (N.callF (find_nil at_) Try.call69 ⟨rfl, rfl, trivial⟩ (by (repeat first | exact Pick.nil _ | (apply Pick.cons; focus ((repeat first | exact Del.head _ _ | apply Del.tail); done))))) ?_
  rintro u17 _ ⟨_, ⟨rfl, rfl⟩, rfl⟩
  try simp only [List.cons_append, List.nil_append]
  refine TO.p (DP.mv (by conv => lhs; whnf)) ?_
  refine TO.p (DP.ex rfl rfl) ?_
  refine TO.p (DP.ex rfl rfl) ?_
  refine TO.p (DP.as (by conv => lhs; whnf)) ?_
  refine TO.p (DP.as (by conv => lhs; whnf)) ?_
  refine TO.nil ?_
  refine TQ.nn ?_
  refine T.seq ?_
  refine T.block ?_
  refine T.seq ?_
  refine T.reg ?_
  refine TO.p (DP.mv (by conv => lhs; whnf)) ?_
  refine TO.p (DP.neq (a := 1) (b := 0) rfl rfl) ?_
  refine TO.p (DP.as (by conv => lhs; whnf)) ?_
  refine TO.nil ?_
  refine TQ.nn ?_
  refine T.condD rfl (fun hc0 => ?_) (fun hc0 => ?_)
  · refine T.seq ?_
    refine T.reg ?_
    refine TO.p (DP.mv (by conv => lhs; whnf)) ?_
    refine TO.p (DP.as (by conv => lhs; whnf)) ?_
    refine TO.nil ?_
    refine TQ.nn ?_
    refine T.ret ?_
    refine TQ.br ?_
    refine TQ.nr ?_
    refine TQ.ret (vs := [.int .i64 1]) (L' := []) rfl ⟨rfl, rfl⟩ ⟨rfl, rfl⟩ (by (refine Ent.imp ?_; repeat first | exact Imp.refl _ | exact Imp.nil _ | (apply Imp.pull; focus ((repeat first | exact Del.head _ _ | apply Del.tail); done)) | (apply Imp.row; focus ((repeat first | exact Del.head _ _ | apply Del.tail); done)) | apply Imp.drop))
  · exact absurd (by decide) hc0

theorem turn_state (q p wb at0 sz at_ : Nat) (wh : List UInt8) (fr : UInt8) (to fv : Value) (h0 : at0 < 4294967296) (hz : 0 < sz) (hz2 : sz ≤ 1048576) (hc : wh.length ≤ 256) (ha : at_ < 4294967296) (k : Nat) (x : UInt8) (hx : wh[k]? = some x) (he : at_ = at0 + k * sz) (hxf : x ≠ fr) :
    Sat Try.prog 49 [.pointer (some ⟨q, 0, none⟩), .int .u32 at_, byteV fr, to, fv] [row 89 q [.pointer (some ⟨p, 0, none⟩), .int .u32 at0, .int .i64 sz, .slice (some ⟨wb, 0, none⟩) wh.length wh.length], row 5 wb (wh.map byteV)] (fun u L' => u = .int .i64 3 ∧ L' = [row 89 q [.pointer (some ⟨p, 0, none⟩), .int .u32 at0, .int .i64 sz, .slice (some ⟨wb, 0, none⟩) wh.length wh.length], row 5 wb (wh.map byteV)]) := by
  refine Sat.enter Try.func49 rfl Try.ntmps49 rfl (fun c R => ?_)
  try simp only [List.cons_append, List.nil_append]
  have hkl : k < wh.length := by rcases Nat.lt_or_ge k wh.length with h | h; exact h; rw [List.getElem?_eq_none h] at hx; cases hx
  refine T.seq ?_
  refine T.reg ?_
  refine TO.p (DP.as (by conv => lhs; whnf)) ?_
  refine TO.nil ?_
  refine TQ.nn ?_
  refine T.seq ?_
  refine T.reg ?_
  refine TO.p (DP.mv (by conv => lhs; whnf)) ?_
  refine TO.p (DP.mv (by conv => lhs; whnf)) ?_
  refine TO.n (N.callF (find_ok q p wb at0 sz wh.length at_ h0 hz hz2 hc ha k hkl he) Try.call69 ⟨rfl, rfl, trivial⟩ (by (repeat first | exact Pick.nil _ | (apply Pick.cons; focus ((repeat first | exact Del.head _ _ | apply Del.tail); done))))) ?_
  rintro u17 _ ⟨_, ⟨rfl, rfl⟩, rfl⟩
  try simp only [List.cons_append, List.nil_append]
  refine TO.p (DP.mv (by conv => lhs; whnf)) ?_
  refine TO.p (DP.ex rfl rfl) ?_
  refine TO.p (DP.ex rfl rfl) ?_
  refine TO.p (DP.as (by conv => lhs; whnf)) ?_
  refine TO.p (DP.as (by conv => lhs; whnf)) ?_
  refine TO.nil ?_
  refine TQ.nn ?_
  refine T.seq ?_
  refine T.block ?_
  refine T.seq ?_
  refine T.reg ?_
  refine TO.p (DP.mv (by conv => lhs; whnf)) ?_
  refine TO.p (DP.neq (a := 0) (b := 0) rfl rfl) ?_
  refine TO.p (DP.as (by conv => lhs; whnf)) ?_
  refine TO.nil ?_
  refine TQ.nn ?_
  refine T.condD rfl (fun hc0 => ?_) (fun hc0 => ?_)
  · exact absurd rfl hc0
  · refine T.seq ?_
    refine T.reg ?_
    refine TO.p (DP.mv (by conv => lhs; whnf)) ?_
    refine TO.p (DP.nck rfl) ?_
    refine TO.p (DP.fa 3 rfl Try.underlying89 rfl rfl sz49) ?_
    refine TO.d (D.ldR rfl pl49 (by (repeat first | exact LMem.head _ _ | apply LMem.tail)) (by rfl)) ?_
    refine TO.p (DP.mv (by conv => lhs; whnf)) ?_
    refine TO.p (DP.to (v' := .pointer (some ⟨wb, k, none⟩)) (DP.ias rfl rfl Try.underlying49 sz5 hkl) (by simp)) ?_
    refine TO.d (D.ldR (v := byteV x) rfl pl5 (by (repeat first | exact LMem.head _ _ | apply LMem.tail)) (by rw [List.getElem?_map]; simp [hx])) ?_
    refine TO.p (DP.mv (by conv => lhs; whnf)) ?_
    refine TO.p (DP.neq rfl rfl) ?_
    refine TO.p (DP.as (by conv => lhs; whnf)) ?_
    refine TO.nil ?_
    refine TQ.nn ?_
    refine T.condD rfl (fun hc1 => ?_) (fun hc1 => ?_)
    · refine T.seq ?_
      refine T.reg ?_
      refine TO.p (DP.as (by conv => lhs; whnf)) ?_
      refine TO.nil ?_
      refine TQ.nn ?_
      refine T.ret ?_
      refine TQ.br ?_
      refine TQ.nr ?_
      refine TQ.ret (vs := [.int .i64 3]) (L' := [_, _]) rfl ⟨rfl, rfl⟩ ⟨rfl, rfl⟩ (by (refine Ent.imp ?_; repeat first | exact Imp.refl _ | exact Imp.nil _ | (apply Imp.pull; focus ((repeat first | exact Del.head _ _ | apply Del.tail); done)) | (apply Imp.row; focus ((repeat first | exact Del.head _ _ | apply Del.tail); done)) | apply Imp.drop))
    · exact (hc1 (fun h => hxf (UInt8.toNat_inj.1 h))).elim

theorem put1_spec (a l : Nat) :
    Sat Try.prog 50 [.agg #[.int .u32 a, .int .u32 l]] [] (fun u L' => u = .int .i64 0 ∧ L' = []) := by
  refine Sat.enter Try.func50 rfl Try.ntmps50 rfl (fun c R => ?_)
  try simp only [List.cons_append, List.nil_append]
  refine T.seq ?_
  refine T.reg ?_
  refine TO.n (N.bxA rfl) ?_
  rintro _ _ ⟨b1, rfl, rfl⟩
  refine TO.p (DP.as (by conv => lhs; whnf)) ?_
  refine TO.nil ?_
  refine TQ.nn ?_
  refine T.seq ?_
  refine T.reg ?_
  refine TO.p (DP.as (by conv => lhs; whnf)) ?_
  refine TO.nil ?_
  refine TQ.nn ?_
  refine T.ret ?_
  refine TQ.ret (vs := [.int .i64 0]) (L' := []) rfl ⟨rfl, rfl⟩ ⟨rfl, rfl⟩ (by (refine Ent.imp ?_; repeat first | exact Imp.refl _ | exact Imp.nil _ | (apply Imp.pull; focus ((repeat first | exact Del.head _ _ | apply Del.tail); done)) | (apply Imp.row; focus ((repeat first | exact Del.head _ _ | apply Del.tail); done)) | apply Imp.drop))

theorem give1_ok (cb q at0 sz wb cnt : Nat) (p b a l : Nat) (v : Value) (bs : List UInt8) (ss : List Spn) (hbs : bs.length ≤ 1048576) (hlen : ss.length ≤ 1048576) (hb : ∀ s ∈ ss, s.1 + s.2 ≤ 1048576) (ha : a < 4294967296) (hl : l < 4294967296) (h0 : 0 < l) (h : a + l ≤ bs.length) (hs : sharedN ss a l = 0) (hsort : ∀ (m h : Nat) (x y : Spn), m ≤ h → ss[m]? = some x → ss[h]? = some y → x.1 ≤ y.1) :
    Sat Try.prog 51 [.agg #[.int .u32 a, .int .u32 l], .pointer (some ⟨cb, 0, none⟩)] [row 46 cb [.pointer (some ⟨q, 0, none⟩)], row 89 q [.pointer (some ⟨p, 0, none⟩), .int .u32 at0, .int .i64 sz, .slice (some ⟨wb, 0, none⟩) cnt cnt], row 78 p [.slice (some ⟨b, 0, none⟩) bs.length bs.length, v], row 5 b (bs.map byteV), sl 42 2 v ss.length (spans ss)] (fun u L' => ∃ v' pre post, u = .int .i64 0 ∧ ss = pre ++ post ∧ (∀ s ∈ pre, s.1 < a) ∧ (∀ s ∈ post, a ≤ s.1) ∧ L' = [row 46 cb [.pointer (some ⟨q, 0, none⟩)], row 89 q [.pointer (some ⟨p, 0, none⟩), .int .u32 at0, .int .i64 sz, .slice (some ⟨wb, 0, none⟩) cnt cnt], row 78 p [.slice (some ⟨b, 0, none⟩) bs.length bs.length, v'], row 5 b (bs.map byteV), sl 42 2 v' (mergeP pre a (mergeN a l post).1 (mergeN a l post).2).length (spans (mergeP pre a (mergeN a l post).1 (mergeN a l post).2))]) := by
  refine Sat.enter Try.func51 rfl Try.ntmps51 rfl (fun c R => ?_)
  try simp only [List.cons_append, List.nil_append]
  refine T.seq ?_
  refine T.reg ?_
  refine TO.n (N.bxA rfl) ?_
  rintro _ _ ⟨b2, rfl, rfl⟩
  refine TO.p (DP.as (by conv => lhs; whnf)) ?_
  refine TO.nil ?_
  refine TQ.nn ?_
  refine T.seq ?_
  refine T.drawL [5] mixed (by repeat first | exact Calm.rt | apply Calm.t | apply Calm.b | apply Calm.l | apply Calm.ct) ?_
  refine TR.d 0 rfl (by kernel_rfl) (by kernel_rfl) (by (refine Ent.imp ?_; repeat first | exact Imp.refl _ | exact Imp.nil _ | (apply Imp.pull; focus ((repeat first | exact Del.head _ _ | apply Del.tail); done)) | (apply Imp.row; focus ((repeat first | exact Del.head _ _ | apply Del.tail); done)) | apply Imp.drop)) (D.ldR rfl pl46 (by (repeat first | exact LMem.head _ _ | apply LMem.tail)) (by rfl)) ?_
  refine TR.p 1 rfl (by kernel_rfl) (DP.nck rfl) ?_
  refine TR.p 2 rfl (by kernel_rfl) (DP.fa 0 rfl Try.underlying89 rfl rfl sz26) ?_
  refine TR.d 3 rfl (by kernel_rfl) (by kernel_rfl) (by (refine Ent.imp ?_; repeat first | exact Imp.refl _ | exact Imp.nil _ | (apply Imp.pull; focus ((repeat first | exact Del.head _ _ | apply Del.tail); done)) | (apply Imp.row; focus ((repeat first | exact Del.head _ _ | apply Del.tail); done)) | apply Imp.drop)) (D.ldR rfl pl26 (by (repeat first | exact LMem.head _ _ | apply LMem.tail)) (by rfl)) ?_
  refine TR.d 4 rfl (by kernel_rfl) (by kernel_rfl) (by (refine Ent.imp ?_; repeat first | exact Imp.refl _ | exact Imp.nil _ | (apply Imp.pull; focus ((repeat first | exact Del.head _ _ | apply Del.tail); done)) | (apply Imp.row; focus ((repeat first | exact Del.head _ _ | apply Del.tail); done)) | apply Imp.drop)) (D.ldRA rfl ag42 sz42 (by (repeat first | exact LMem.head _ _ | apply LMem.tail)) (by rfl)) ?_
  refine TR.n 5 (by kernel_rfl) rfl (N.callF (lend_ok p b a l v bs ss hbs hlen hb ha hl h0 h hs hsort) Try.call14 ⟨rfl, rfl, trivial⟩ (by (repeat first | exact Pick.nil _ | (apply Pick.cons; focus ((repeat first | exact Del.head _ _ | apply Del.tail); done))))) ?_
  rintro u9 _ ⟨_, ⟨v9, pre, post, rfl, hss, h1, h2, rfl⟩, rfl⟩
  try simp only [List.cons_append, List.nil_append]
  refine ⟨.inl rfl, ?_⟩
  refine TR.p 6 rfl (by kernel_rfl) (DP.as (by conv => lhs; whnf)) ?_
  refine TR.done (by kernel_rfl) ?_
  refine TQ.nn ?_
  refine T.ret ?_
  refine TQ.ret (vs := [_]) (L' := [row 46 cb [.pointer (some ⟨q, 0, none⟩)], row 89 q [.pointer (some ⟨p, 0, none⟩), .int .u32 at0, .int .i64 sz, .slice (some ⟨wb, 0, none⟩) cnt cnt], row 78 p [.slice (some ⟨b, 0, none⟩) bs.length bs.length, v9], row 5 b (bs.map byteV), sl 42 2 v9 (mergeP pre a (mergeN a l post).1 (mergeN a l post).2).length (spans (mergeP pre a (mergeN a l post).1 (mergeN a l post).2))]) rfl ⟨rfl, rfl⟩ ⟨v9, pre, post, rfl, hss, h1, h2, rfl⟩ (by (refine Ent.imp ?_; repeat first | exact Imp.refl _ | exact Imp.nil _ | (apply Imp.pull; focus ((repeat first | exact Del.head _ _ | apply Del.tail); done)) | (apply Imp.row; focus ((repeat first | exact Del.head _ _ | apply Del.tail); done)) | apply Imp.drop))

theorem give1_bad (cb q at0 sz wb cnt : Nat) (p b a l : Nat) (v : Value) (bs : List UInt8) (ss : List Spn) (hbs : bs.length ≤ 1048576) (hlen : ss.length ≤ 1048576) (hb : ∀ s ∈ ss, s.1 + s.2 ≤ 1048576) (ha : a < 4294967296) (hl : l < 4294967296) (h0 : 0 < l) (h : a + l ≤ bs.length) (hs : 0 < sharedN ss a l) :
    Sat Try.prog 51 [.agg #[.int .u32 a, .int .u32 l], .pointer (some ⟨cb, 0, none⟩)] [row 46 cb [.pointer (some ⟨q, 0, none⟩)], row 89 q [.pointer (some ⟨p, 0, none⟩), .int .u32 at0, .int .i64 sz, .slice (some ⟨wb, 0, none⟩) cnt cnt], row 78 p [.slice (some ⟨b, 0, none⟩) bs.length bs.length, v], row 5 b (bs.map byteV), sl 42 2 v ss.length (spans ss)] (fun u L' => u = .int .i64 11 ∧ L' = [row 46 cb [.pointer (some ⟨q, 0, none⟩)], row 89 q [.pointer (some ⟨p, 0, none⟩), .int .u32 at0, .int .i64 sz, .slice (some ⟨wb, 0, none⟩) cnt cnt], row 78 p [.slice (some ⟨b, 0, none⟩) bs.length bs.length, v], row 5 b (bs.map byteV), sl 42 2 v ss.length (spans ss)]) := by
  refine Sat.enter Try.func51 rfl Try.ntmps51 rfl (fun c R => ?_)
  try simp only [List.cons_append, List.nil_append]
  refine T.seq ?_
  refine T.reg ?_
  refine TO.n (N.bxA rfl) ?_
  rintro _ _ ⟨b2, rfl, rfl⟩
  refine TO.p (DP.as (by conv => lhs; whnf)) ?_
  refine TO.nil ?_
  refine TQ.nn ?_
  refine T.seq ?_
  refine T.drawL [5] mixed (by repeat first | exact Calm.rt | apply Calm.t | apply Calm.b | apply Calm.l | apply Calm.ct) ?_
  refine TR.d 0 rfl (by kernel_rfl) (by kernel_rfl) (by (refine Ent.imp ?_; repeat first | exact Imp.refl _ | exact Imp.nil _ | (apply Imp.pull; focus ((repeat first | exact Del.head _ _ | apply Del.tail); done)) | (apply Imp.row; focus ((repeat first | exact Del.head _ _ | apply Del.tail); done)) | apply Imp.drop)) (D.ldR rfl pl46 (by (repeat first | exact LMem.head _ _ | apply LMem.tail)) (by rfl)) ?_
  refine TR.p 1 rfl (by kernel_rfl) (DP.nck rfl) ?_
  refine TR.p 2 rfl (by kernel_rfl) (DP.fa 0 rfl Try.underlying89 rfl rfl sz26) ?_
  refine TR.d 3 rfl (by kernel_rfl) (by kernel_rfl) (by (refine Ent.imp ?_; repeat first | exact Imp.refl _ | exact Imp.nil _ | (apply Imp.pull; focus ((repeat first | exact Del.head _ _ | apply Del.tail); done)) | (apply Imp.row; focus ((repeat first | exact Del.head _ _ | apply Del.tail); done)) | apply Imp.drop)) (D.ldR rfl pl26 (by (repeat first | exact LMem.head _ _ | apply LMem.tail)) (by rfl)) ?_
  refine TR.d 4 rfl (by kernel_rfl) (by kernel_rfl) (by (refine Ent.imp ?_; repeat first | exact Imp.refl _ | exact Imp.nil _ | (apply Imp.pull; focus ((repeat first | exact Del.head _ _ | apply Del.tail); done)) | (apply Imp.row; focus ((repeat first | exact Del.head _ _ | apply Del.tail); done)) | apply Imp.drop)) (D.ldRA rfl ag42 sz42 (by (repeat first | exact LMem.head _ _ | apply LMem.tail)) (by rfl)) ?_
  refine TR.n 5 (by kernel_rfl) rfl (N.callF (lend_bad p b a l v bs ss hbs hlen hb ha hl h0 h hs) Try.call14 ⟨rfl, rfl, trivial⟩ (by (repeat first | exact Pick.nil _ | (apply Pick.cons; focus ((repeat first | exact Del.head _ _ | apply Del.tail); done))))) ?_
  rintro u9 _ ⟨_, ⟨rfl, rfl⟩, rfl⟩
  try simp only [List.cons_append, List.nil_append]
  refine ⟨.inl rfl, ?_⟩
  refine TR.p 6 rfl (by kernel_rfl) (DP.as (by conv => lhs; whnf)) ?_
  refine TR.done (by kernel_rfl) ?_
  refine TQ.nn ?_
  refine T.ret ?_
  refine TQ.ret (vs := [_]) (L' := [row 46 cb [.pointer (some ⟨q, 0, none⟩)], row 89 q [.pointer (some ⟨p, 0, none⟩), .int .u32 at0, .int .i64 sz, .slice (some ⟨wb, 0, none⟩) cnt cnt], row 78 p [.slice (some ⟨b, 0, none⟩) bs.length bs.length, v], row 5 b (bs.map byteV), sl 42 2 v ss.length (spans ss)]) rfl ⟨rfl, rfl⟩ ⟨rfl, rfl⟩ (by (refine Ent.imp ?_; repeat first | exact Imp.refl _ | exact Imp.nil _ | (apply Imp.pull; focus ((repeat first | exact Del.head _ _ | apply Del.tail); done)) | (apply Imp.row; focus ((repeat first | exact Del.head _ _ | apply Del.tail); done)) | apply Imp.drop))

theorem take1_ok (cb q at0 sz wb cnt : Nat) (p b a l : Nat) (v : Value) (bs : List UInt8) (ss : List Spn) (hbs : bs.length ≤ 1048576) (hlen : ss.length ≤ 1048576) (hb : ∀ s ∈ ss, s.1 + s.2 ≤ 1048576) (ha : a < 4294967296) (hl : l < 4294967296) (h0 : 0 < l) (h : a + l ≤ bs.length) (hs : l ≤ sharedN ss a l) :
    Sat Try.prog 52 [.agg #[.int .u32 a, .int .u32 l], .pointer (some ⟨cb, 0, none⟩)] [row 46 cb [.pointer (some ⟨q, 0, none⟩)], row 89 q [.pointer (some ⟨p, 0, none⟩), .int .u32 at0, .int .i64 sz, .slice (some ⟨wb, 0, none⟩) cnt cnt], row 78 p [.slice (some ⟨b, 0, none⟩) bs.length bs.length, v], row 5 b (bs.map byteV), sl 42 2 v ss.length (spans ss)] (fun u L' => ∃ v', u = .int .i64 0 ∧ L' = [row 46 cb [.pointer (some ⟨q, 0, none⟩)], row 89 q [.pointer (some ⟨p, 0, none⟩), .int .u32 at0, .int .i64 sz, .slice (some ⟨wb, 0, none⟩) cnt cnt], row 78 p [.slice (some ⟨b, 0, none⟩) bs.length bs.length, v'], row 5 b (bs.map byteV), sl 42 2 v' (backL a l ss).length (spans (backL a l ss))]) := by
  refine Sat.enter Try.func52 rfl Try.ntmps52 rfl (fun c R => ?_)
  try simp only [List.cons_append, List.nil_append]
  refine T.seq ?_
  refine T.reg ?_
  refine TO.n (N.bxA rfl) ?_
  rintro _ _ ⟨b2, rfl, rfl⟩
  refine TO.p (DP.as (by conv => lhs; whnf)) ?_
  refine TO.nil ?_
  refine TQ.nn ?_
  refine T.seq ?_
  refine T.drawL [5] mixed (by repeat first | exact Calm.rt | apply Calm.t | apply Calm.b | apply Calm.l | apply Calm.ct) ?_
  refine TR.d 0 rfl (by kernel_rfl) (by kernel_rfl) (by (refine Ent.imp ?_; repeat first | exact Imp.refl _ | exact Imp.nil _ | (apply Imp.pull; focus ((repeat first | exact Del.head _ _ | apply Del.tail); done)) | (apply Imp.row; focus ((repeat first | exact Del.head _ _ | apply Del.tail); done)) | apply Imp.drop)) (D.ldR rfl pl46 (by (repeat first | exact LMem.head _ _ | apply LMem.tail)) (by rfl)) ?_
  refine TR.p 1 rfl (by kernel_rfl) (DP.nck rfl) ?_
  refine TR.p 2 rfl (by kernel_rfl) (DP.fa 0 rfl Try.underlying89 rfl rfl sz26) ?_
  refine TR.d 3 rfl (by kernel_rfl) (by kernel_rfl) (by (refine Ent.imp ?_; repeat first | exact Imp.refl _ | exact Imp.nil _ | (apply Imp.pull; focus ((repeat first | exact Del.head _ _ | apply Del.tail); done)) | (apply Imp.row; focus ((repeat first | exact Del.head _ _ | apply Del.tail); done)) | apply Imp.drop)) (D.ldR rfl pl26 (by (repeat first | exact LMem.head _ _ | apply LMem.tail)) (by rfl)) ?_
  refine TR.d 4 rfl (by kernel_rfl) (by kernel_rfl) (by (refine Ent.imp ?_; repeat first | exact Imp.refl _ | exact Imp.nil _ | (apply Imp.pull; focus ((repeat first | exact Del.head _ _ | apply Del.tail); done)) | (apply Imp.row; focus ((repeat first | exact Del.head _ _ | apply Del.tail); done)) | apply Imp.drop)) (D.ldRA rfl ag42 sz42 (by (repeat first | exact LMem.head _ _ | apply LMem.tail)) (by rfl)) ?_
  refine TR.n 5 (by kernel_rfl) rfl (N.callF (back_ok p b a l v bs ss hbs hlen hb ha hl h0 h hs) Try.call15 ⟨rfl, rfl, trivial⟩ (by (repeat first | exact Pick.nil _ | (apply Pick.cons; focus ((repeat first | exact Del.head _ _ | apply Del.tail); done))))) ?_
  rintro u9 _ ⟨_, ⟨v9, rfl, rfl⟩, rfl⟩
  try simp only [List.cons_append, List.nil_append]
  refine ⟨.inl rfl, ?_⟩
  refine TR.p 6 rfl (by kernel_rfl) (DP.as (by conv => lhs; whnf)) ?_
  refine TR.done (by kernel_rfl) ?_
  refine TQ.nn ?_
  refine T.ret ?_
  refine TQ.ret (vs := [_]) (L' := [row 46 cb [.pointer (some ⟨q, 0, none⟩)], row 89 q [.pointer (some ⟨p, 0, none⟩), .int .u32 at0, .int .i64 sz, .slice (some ⟨wb, 0, none⟩) cnt cnt], row 78 p [.slice (some ⟨b, 0, none⟩) bs.length bs.length, v9], row 5 b (bs.map byteV), sl 42 2 v9 (backL a l ss).length (spans (backL a l ss))]) rfl ⟨rfl, rfl⟩ ⟨v9, rfl, rfl⟩ (by (refine Ent.imp ?_; repeat first | exact Imp.refl _ | exact Imp.nil _ | (apply Imp.pull; focus ((repeat first | exact Del.head _ _ | apply Del.tail); done)) | (apply Imp.row; focus ((repeat first | exact Del.head _ _ | apply Del.tail); done)) | apply Imp.drop))

theorem take1_bad (cb q at0 sz wb cnt : Nat) (p b a l : Nat) (v : Value) (bs : List UInt8) (ss : List Spn) (hbs : bs.length ≤ 1048576) (hlen : ss.length ≤ 1048576) (hb : ∀ s ∈ ss, s.1 + s.2 ≤ 1048576) (ha : a < 4294967296) (hl : l < 4294967296) (h0 : 0 < l) (h : a + l ≤ bs.length) (hs : sharedN ss a l < l) :
    Sat Try.prog 52 [.agg #[.int .u32 a, .int .u32 l], .pointer (some ⟨cb, 0, none⟩)] [row 46 cb [.pointer (some ⟨q, 0, none⟩)], row 89 q [.pointer (some ⟨p, 0, none⟩), .int .u32 at0, .int .i64 sz, .slice (some ⟨wb, 0, none⟩) cnt cnt], row 78 p [.slice (some ⟨b, 0, none⟩) bs.length bs.length, v], row 5 b (bs.map byteV), sl 42 2 v ss.length (spans ss)] (fun u L' => u = .int .i64 12 ∧ L' = [row 46 cb [.pointer (some ⟨q, 0, none⟩)], row 89 q [.pointer (some ⟨p, 0, none⟩), .int .u32 at0, .int .i64 sz, .slice (some ⟨wb, 0, none⟩) cnt cnt], row 78 p [.slice (some ⟨b, 0, none⟩) bs.length bs.length, v], row 5 b (bs.map byteV), sl 42 2 v ss.length (spans ss)]) := by
  refine Sat.enter Try.func52 rfl Try.ntmps52 rfl (fun c R => ?_)
  try simp only [List.cons_append, List.nil_append]
  refine T.seq ?_
  refine T.reg ?_
  refine TO.n (N.bxA rfl) ?_
  rintro _ _ ⟨b2, rfl, rfl⟩
  refine TO.p (DP.as (by conv => lhs; whnf)) ?_
  refine TO.nil ?_
  refine TQ.nn ?_
  refine T.seq ?_
  refine T.drawL [5] mixed (by repeat first | exact Calm.rt | apply Calm.t | apply Calm.b | apply Calm.l | apply Calm.ct) ?_
  refine TR.d 0 rfl (by kernel_rfl) (by kernel_rfl) (by (refine Ent.imp ?_; repeat first | exact Imp.refl _ | exact Imp.nil _ | (apply Imp.pull; focus ((repeat first | exact Del.head _ _ | apply Del.tail); done)) | (apply Imp.row; focus ((repeat first | exact Del.head _ _ | apply Del.tail); done)) | apply Imp.drop)) (D.ldR rfl pl46 (by (repeat first | exact LMem.head _ _ | apply LMem.tail)) (by rfl)) ?_
  refine TR.p 1 rfl (by kernel_rfl) (DP.nck rfl) ?_
  refine TR.p 2 rfl (by kernel_rfl) (DP.fa 0 rfl Try.underlying89 rfl rfl sz26) ?_
  refine TR.d 3 rfl (by kernel_rfl) (by kernel_rfl) (by (refine Ent.imp ?_; repeat first | exact Imp.refl _ | exact Imp.nil _ | (apply Imp.pull; focus ((repeat first | exact Del.head _ _ | apply Del.tail); done)) | (apply Imp.row; focus ((repeat first | exact Del.head _ _ | apply Del.tail); done)) | apply Imp.drop)) (D.ldR rfl pl26 (by (repeat first | exact LMem.head _ _ | apply LMem.tail)) (by rfl)) ?_
  refine TR.d 4 rfl (by kernel_rfl) (by kernel_rfl) (by (refine Ent.imp ?_; repeat first | exact Imp.refl _ | exact Imp.nil _ | (apply Imp.pull; focus ((repeat first | exact Del.head _ _ | apply Del.tail); done)) | (apply Imp.row; focus ((repeat first | exact Del.head _ _ | apply Del.tail); done)) | apply Imp.drop)) (D.ldRA rfl ag42 sz42 (by (repeat first | exact LMem.head _ _ | apply LMem.tail)) (by rfl)) ?_
  refine TR.n 5 (by kernel_rfl) rfl (N.callF (back_bad p b a l v bs ss hbs hlen hb ha hl h0 h hs) Try.call15 ⟨rfl, rfl, trivial⟩ (by (repeat first | exact Pick.nil _ | (apply Pick.cons; focus ((repeat first | exact Del.head _ _ | apply Del.tail); done))))) ?_
  rintro u9 _ ⟨_, ⟨rfl, rfl⟩, rfl⟩
  try simp only [List.cons_append, List.nil_append]
  refine ⟨.inl rfl, ?_⟩
  refine TR.p 6 rfl (by kernel_rfl) (DP.as (by conv => lhs; whnf)) ?_
  refine TR.done (by kernel_rfl) ?_
  refine TQ.nn ?_
  refine T.ret ?_
  refine TQ.ret (vs := [_]) (L' := [row 46 cb [.pointer (some ⟨q, 0, none⟩)], row 89 q [.pointer (some ⟨p, 0, none⟩), .int .u32 at0, .int .i64 sz, .slice (some ⟨wb, 0, none⟩) cnt cnt], row 78 p [.slice (some ⟨b, 0, none⟩) bs.length bs.length, v], row 5 b (bs.map byteV), sl 42 2 v ss.length (spans ss)]) rfl ⟨rfl, rfl⟩ ⟨rfl, rfl⟩ (by (refine Ent.imp ?_; repeat first | exact Imp.refl _ | exact Imp.nil _ | (apply Imp.pull; focus ((repeat first | exact Del.head _ _ | apply Del.tail); done)) | (apply Imp.row; focus ((repeat first | exact Del.head _ _ | apply Del.tail); done)) | apply Imp.drop))
end Go.Proofs.Ytpidkdkbgjnhlaa
