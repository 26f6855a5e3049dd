/- Lemmas for the proofs of this seat: no statement of the seat is claimed here. -/
import Derived.Test.YtpidkdkbgjnhlaaA2
set_option linter.all false
namespace Go.Proofs.Ytpidkdkbgjnhlaa
open Go Pw
set_option maxRecDepth 20000
set_option maxHeartbeats 4000000
def fkI : Option Nat → Int
  | some k => k
  | none => -1
theorem works_spec  :
    Sat Try.prog 8 [] [] (fun u L' => u = .bool true ∧ L' = []) := by
  refine Sat.enter Try.func8 rfl Try.ntmps8 rfl (fun c R => ?_)
  try simp only [List.cons_append, List.nil_append]
  refine T.seq ?_
  refine T.reg ?_
  refine TO.p (DP.as (by conv => lhs; whnf)) ?_
  refine TO.nil ?_
  refine TQ.nn ?_
  refine T.seq ?_
  refine T.reg ?_
  refine TO.n (N.callF (k_new) Try.call9 ⟨rfl, trivial⟩ (by (repeat first | exact Pick.nil _ | (apply Pick.cons; focus ((repeat first | exact Del.head _ _ | apply Del.tail); done))))) ?_
  rintro u16 _ ⟨_, ⟨p, rfl, rfl⟩, rfl⟩
  try simp only [List.cons_append, List.nil_append]
  refine TO.p (DP.mv (by conv => lhs; whnf)) ?_
  refine TO.p (DP.ex rfl rfl) ?_
  refine TO.p (DP.ex rfl rfl) ?_
  refine TO.p (DP.as (by conv => lhs; whnf)) ?_
  refine TO.p (DP.as (by conv => lhs; whnf)) ?_
  refine TO.nil ?_
  refine TQ.nn ?_
  refine T.seq ?_
  refine T.seq ?_
  refine T.reg ?_
  refine TO.p (DP.mv (by conv => lhs; whnf)) ?_
  refine TO.p (DP.to (v' := .bool false) (DP.neqI rfl rfl) (by simp)) ?_
  refine TO.p (DP.mv (by conv => lhs; whnf)) ?_
  refine TO.onP rfl (DP.mv (by conv => lhs; whnf)) ?_
  refine TO.onP rfl (DP.peqS rfl rfl Try.underlying26) ?_
  refine TO.p (DP.pkF rfl (by conv => lhs; whnf)) ?_
  refine TO.nil ?_
  refine TQ.nn ?_
  refine T.condF rfl ?_
  refine T.skip ?_
  refine TQ.nn ?_
  refine T.seq ?_
  refine T.reg ?_
  refine TO.p (DP.mv (by conv => lhs; whnf)) ?_
  refine TO.n (N.callF (k_put p) Try.call37 ⟨rfl, rfl, rfl, trivial⟩ (by (repeat first | exact Pick.nil _ | (apply Pick.cons; focus ((repeat first | exact Del.head _ _ | apply Del.tail); done))))) ?_
  rintro u26 _ ⟨_, ⟨rfl, rfl⟩, rfl⟩
  try simp only [List.cons_append, List.nil_append]
  refine TO.p (DP.as (by conv => lhs; whnf)) ?_
  refine TO.nil ?_
  refine TQ.nn ?_
  refine T.seq ?_
  refine T.reg ?_
  refine TO.p (DP.mv (by conv => lhs; whnf)) ?_
  refine TO.n (N.callF (k_u16 p) Try.call32 ⟨rfl, rfl, trivial⟩ (by (repeat first | exact Pick.nil _ | (apply Pick.cons; focus ((repeat first | exact Del.head _ _ | apply Del.tail); done))))) ?_
  rintro u29 _ ⟨_, ⟨rfl, rfl⟩, rfl⟩
  try simp only [List.cons_append, List.nil_append]
  refine TO.p (DP.mv (by conv => lhs; whnf)) ?_
  refine TO.p (DP.ex rfl rfl) ?_
  refine TO.p (DP.ex rfl rfl) ?_
  refine TO.p (DP.as (by conv => lhs; whnf)) ?_
  refine TO.p (DP.as (by conv => lhs; whnf)) ?_
  refine TO.nil ?_
  refine TQ.nn ?_
  refine T.seq ?_
  refine T.reg ?_
  refine TO.p (DP.mv (by conv => lhs; whnf)) ?_
  refine TO.p (DP.bdL (vs := [(0, _), (1, _)]) (us := [_, _]) ⟨rfl, (by conv => lhs; whnf), rfl, (by conv => lhs; whnf), trivial⟩ pc42 zr42 rfl) ?_
  refine TO.n (N.callF (k_lend p) Try.call14 ⟨rfl, rfl, trivial⟩ (by (repeat first | exact Pick.nil _ | (apply Pick.cons; focus ((repeat first | exact Del.head _ _ | apply Del.tail); done))))) ?_
  rintro u34 _ ⟨_, ⟨rfl, rfl⟩, rfl⟩
  try simp only [List.cons_append, List.nil_append]
  refine TO.p (DP.as (by conv => lhs; whnf)) ?_
  refine TO.nil ?_
  refine TQ.nn ?_
  refine T.seq ?_
  refine T.reg ?_
  refine TO.p (DP.mv (by conv => lhs; whnf)) ?_
  refine TO.n (N.callF (k_write p) Try.call12 ⟨rfl, rfl, rfl, trivial⟩ (by (repeat first | exact Pick.nil _ | (apply Pick.cons; focus ((repeat first | exact Del.head _ _ | apply Del.tail); done))))) ?_
  rintro u36 _ ⟨_, ⟨rfl, rfl⟩, rfl⟩
  try simp only [List.cons_append, List.nil_append]
  refine TO.p (DP.as (by conv => lhs; whnf)) ?_
  refine TO.nil ?_
  refine TQ.nn ?_
  refine T.seq ?_
  refine T.reg ?_
  refine TO.p (DP.mv (by conv => lhs; whnf)) ?_
  refine TO.n (N.callF (k_device p) Try.call16 ⟨rfl, rfl, rfl, trivial⟩ (by (repeat first | exact Pick.nil _ | (apply Pick.cons; focus ((repeat first | exact Del.head _ _ | apply Del.tail); done))))) ?_
  rintro u38 _ ⟨_, ⟨rfl, rfl⟩, rfl⟩
  try simp only [List.cons_append, List.nil_append]
  refine TO.p (DP.as (by conv => lhs; whnf)) ?_
  refine TO.nil ?_
  refine TQ.nn ?_
  refine T.seq ?_
  refine T.reg ?_
  refine TO.p (DP.mv (by conv => lhs; whnf)) ?_
  refine TO.p (DP.bdL (vs := [(0, _), (1, _)]) (us := [_, _]) ⟨rfl, (by conv => lhs; whnf), rfl, (by conv => lhs; whnf), trivial⟩ pc42 zr42 rfl) ?_
  refine TO.n (N.callF (k_back p) Try.call15 ⟨rfl, rfl, trivial⟩ (by (repeat first | exact Pick.nil _ | (apply Pick.cons; focus ((repeat first | exact Del.head _ _ | apply Del.tail); done))))) ?_
  rintro u41 _ ⟨_, ⟨rfl, rfl⟩, rfl⟩
  try simp only [List.cons_append, List.nil_append]
  refine TO.p (DP.as (by conv => lhs; whnf)) ?_
  refine TO.nil ?_
  refine TQ.nn ?_
  refine T.seq ?_
  refine T.reg ?_
  refine TO.p (DP.mv (by conv => lhs; whnf)) ?_
  refine TO.n (N.callF (k_lent p) Try.call11 ⟨rfl, trivial⟩ (by (repeat first | exact Pick.nil _ | (apply Pick.cons; focus ((repeat first | exact Del.head _ _ | apply Del.tail); done))))) ?_
  rintro u43 _ ⟨_, rfl, rfl⟩
  try simp only [List.cons_append, List.nil_append]
  refine TO.p (DP.as (by conv => lhs; whnf)) ?_
  refine TO.nil ?_
  refine TQ.nn ?_
  refine T.seq ?_
  refine T.reg ?_
  refine TO.p (DP.mv (by conv => lhs; whnf)) ?_
  refine TO.n (N.callF (k_pool p) Try.call19 ⟨rfl, rfl, rfl, rfl, trivial⟩ (by (repeat first | exact Pick.nil _ | (apply Pick.cons; focus ((repeat first | exact Del.head _ _ | apply Del.tail); done))))) ?_
  rintro u46 _ ⟨_, ⟨q, rfl, rfl⟩, rfl⟩
  try simp only [List.cons_append, List.nil_append]
  refine TO.p (DP.mv (by conv => lhs; whnf)) ?_
  refine TO.p (DP.ex rfl rfl) ?_
  refine TO.p (DP.ex rfl rfl) ?_
  refine TO.p (DP.as (by conv => lhs; whnf)) ?_
  refine TO.p (DP.as (by conv => lhs; whnf)) ?_
  refine TO.nil ?_
  refine TQ.nn ?_
  refine T.seq ?_
  refine T.seq ?_
  refine T.reg ?_
  refine TO.p (DP.mv (by conv => lhs; whnf)) ?_
  refine TO.p (DP.peqS rfl rfl Try.underlying46) ?_
  refine TO.nil ?_
  refine TQ.nn ?_
  refine T.condF rfl ?_
  refine T.skip ?_
  refine TQ.nn ?_
  refine T.seq ?_
  refine T.reg ?_
  refine TO.p (DP.mv (by conv => lhs; whnf)) ?_
  refine TO.n (N.callF (k_get p q) Try.call20 ⟨rfl, trivial⟩ (by (repeat first | exact Pick.nil _ | (apply Pick.cons; focus ((repeat first | exact Del.head _ _ | apply Del.tail); done))))) ?_
  rintro u53 _ ⟨_, ⟨rfl, rfl⟩, rfl⟩
  try simp only [List.cons_append, List.nil_append]
  refine TO.p (DP.mv (by conv => lhs; whnf)) ?_
  refine TO.p (DP.ex rfl rfl) ?_
  refine TO.p (DP.ex rfl rfl) ?_
  refine TO.p (DP.as (by conv => lhs; whnf)) ?_
  refine TO.p (DP.as (by conv => lhs; whnf)) ?_
  refine TO.nil ?_
  refine TQ.nn ?_
  refine T.seq ?_
  refine T.reg ?_
  refine TO.p (DP.mv (by conv => lhs; whnf)) ?_
  refine TO.p (DP.to (v' := .bool true) (DP.eqlI rfl rfl) (by simp)) ?_
  refine TO.p (DP.mv (by conv => lhs; whnf)) ?_
  refine TO.onP rfl (DP.mv (by conv => lhs; whnf)) ?_
  refine TO.onP rfl (DP.to (v' := .bool true) (DP.eqlI rfl rfl) (by simp)) ?_
  refine TO.p (DP.pkT rfl (by conv => lhs; whnf)) ?_
  refine TO.p (DP.mv (by conv => lhs; whnf)) ?_
  refine TO.onP rfl (DP.mv (by conv => lhs; whnf)) ?_
  refine TO.onP rfl (DP.to (v' := .bool true) (DP.eqlI rfl rfl) (by simp)) ?_
  refine TO.p (DP.pkT rfl (by conv => lhs; whnf)) ?_
  refine TO.p (DP.mv (by conv => lhs; whnf)) ?_
  refine TO.onP rfl (DP.mv (by conv => lhs; whnf)) ?_
  refine TO.onP rfl (DP.to (v' := .bool true) (DP.eqlI rfl rfl) (by simp)) ?_
  refine TO.p (DP.pkT rfl (by conv => lhs; whnf)) ?_
  refine TO.p (DP.mv (by conv => lhs; whnf)) ?_
  refine TO.onP rfl (DP.mv (by conv => lhs; whnf)) ?_
  refine TO.onP rfl (DP.to (v' := .bool true) (DP.eqlI rfl rfl) (by simp)) ?_
  refine TO.p (DP.pkT rfl (by conv => lhs; whnf)) ?_
  refine TO.p (DP.mv (by conv => lhs; whnf)) ?_
  refine TO.onP rfl (DP.mv (by conv => lhs; whnf)) ?_
  refine TO.onP rfl (DP.to (v' := .bool true) (DP.eqlI rfl rfl) (by simp)) ?_
  refine TO.p (DP.pkT rfl (by conv => lhs; whnf)) ?_
  refine TO.p (DP.mv (by conv => lhs; whnf)) ?_
  refine TO.onP rfl (DP.mv (by conv => lhs; whnf)) ?_
  refine TO.onP rfl (DP.to (v' := .bool true) (DP.eqlI rfl rfl) (by simp)) ?_
  refine TO.p (DP.pkT rfl (by conv => lhs; whnf)) ?_
  refine TO.p (DP.mv (by conv => lhs; whnf)) ?_
  refine TO.onP rfl (DP.mv (by conv => lhs; whnf)) ?_
  refine TO.onD rfl (D.lenO (by conv => lhs; whnf) Try.underlying36 (by (repeat first | exact LMem.head _ _ | apply LMem.tail))) ?_
  refine TO.onP rfl (DP.to (v' := .bool true) (DP.eqlI rfl rfl) (by simp)) ?_
  refine TO.p (DP.pkT rfl (by conv => lhs; whnf)) ?_
  refine TO.p (DP.mv (by conv => lhs; whnf)) ?_
  refine TO.onP rfl (DP.mv (by conv => lhs; whnf)) ?_
  refine TO.onD rfl (D.iasO (i := 1) (by conv => lhs; whnf) rfl Try.underlying36 sz42 (by (repeat first | exact LMem.head _ _ | apply LMem.tail)) (by omega)) ?_
  refine TO.onD rfl (D.ldOA (us := [.int .u32 8, .int .u32 4]) (by conv => lhs; whnf) ag42 sz42 (by (repeat first | exact LMem.head _ _ | apply LMem.tail)) (by omega) (fun j u hu => by rcases j with _ | _ | j <;> simpa [spv] using hu) rfl) ?_
  refine TO.onP rfl (DP.bdL (vs := [(0, _), (1, _)]) (us := [_, _]) ⟨rfl, (by conv => lhs; whnf), rfl, (by conv => lhs; whnf), trivial⟩ pc42 zr42 rfl) ?_
  refine TO.onP rfl (DP.to (v' := .bool true) (DP.aeql2 rfl rfl Try.underlying42 gd42 si42 (by decide) (by decide) rfl rfl Try.underlying30 Try.underlying30 sz30 sz30) (by simp)) ?_
  refine TO.p (DP.pkT rfl (by conv => lhs; whnf)) ?_
  refine TO.p (DP.mv (by conv => lhs; whnf)) ?_
  refine TO.onP rfl (DP.mv (by conv => lhs; whnf)) ?_
  refine TO.onP rfl (DP.to (v' := .bool true) (DP.eqlI rfl rfl) (by simp)) ?_
  refine TO.p (DP.pkT rfl (by conv => lhs; whnf)) ?_
  refine TO.p (DP.mv (by conv => lhs; whnf)) ?_
  refine TO.onP rfl (DP.mv (by conv => lhs; whnf)) ?_
  refine TO.onP rfl (DP.to (v' := .bool true) (DP.eqlI rfl rfl) (by simp)) ?_
  refine TO.p (DP.pkT rfl (by conv => lhs; whnf)) ?_
  refine TO.p (DP.mv (by conv => lhs; whnf)) ?_
  refine TO.onP rfl (DP.mv (by conv => lhs; whnf)) ?_
  refine TO.onP rfl (DP.to (v' := .bool true) (DP.eqlI rfl rfl) (by simp)) ?_
  refine TO.p (DP.pkT rfl (by conv => lhs; whnf)) ?_
  refine TO.p (DP.mv (by conv => lhs; whnf)) ?_
  refine TO.onP rfl (DP.mv (by conv => lhs; whnf)) ?_
  refine TO.on rfl (N.callF (k_left p q) Try.call21 ⟨rfl, trivial⟩ (by (repeat first | exact Pick.nil _ | (apply Pick.cons; focus ((repeat first | exact Del.head _ _ | apply Del.tail); done))))) ?_
  rintro u108 _ ⟨_, ⟨rfl, rfl⟩, rfl⟩
  try simp only [List.cons_append, List.nil_append]
  refine TO.onP rfl (DP.to (v' := .bool true) (DP.eqlI rfl rfl) (by simp)) ?_
  refine TO.p (DP.pkT rfl (by conv => lhs; whnf)) ?_
  refine TO.p (DP.as (by conv => lhs; whnf)) ?_
  refine TO.nil ?_
  refine TQ.nn ?_
  refine T.ret ?_
  refine TQ.ret (vs := [.bool true]) (L' := []) rfl ⟨rfl, rfl⟩ ⟨rfl, rfl⟩ (by (refine Ent.imp ?_; repeat first | exact Imp.refl _ | exact Imp.nil _ | (apply Imp.pull; focus ((repeat first | exact Del.head _ _ | apply Del.tail); done)) | (apply Imp.row; focus ((repeat first | exact Del.head _ _ | apply Del.tail); done)) | apply Imp.drop))

theorem rfindI (q r wb at0 sz : Nat) (wh : List UInt8) (at_ : Nat) (h0 : at0 < 4294967296) (hz : 0 < sz) (hz2 : sz ≤ 1048576) (hc : wh.length ≤ 256) (ha : at_ < 4294967296) :
    Sat Try.prog 65 [.pointer (some ⟨q, 0, none⟩), .int .u32 at_] [row 94 q [.pointer (some ⟨r, 0, none⟩), .int .u32 at0, .int .i64 sz, .slice (some ⟨wb, 0, none⟩) wh.length wh.length], row 5 wb (wh.map byteV)] (fun u L' => u = .int .i64 (fkI (findK at0 sz wh.length at_)) ∧ L' = [row 94 q [.pointer (some ⟨r, 0, none⟩), .int .u32 at0, .int .i64 sz, .slice (some ⟨wb, 0, none⟩) wh.length wh.length], row 5 wb (wh.map byteV)]) := by
  cases hk : findK at0 sz wh.length at_ with
  | some k =>
    obtain ⟨h1, h2⟩ := findK_some hk
    exact rfind_ok q r wb at0 sz wh at_ h0 hz hz2 hc ha k h1 h2
  | none => exact rfind_bad q r wb at0 sz wh at_ h0 hz hz2 hc ha (findK_none hk)
theorem whoseE_at {at0 sz k : Nat} {wh : List UInt8} (hz : 0 < sz) (hk : k < wh.length) : whoseE at0 sz wh (at0 + k * sz) = (wAt wh k, 0) := by
  unfold whoseE; rw [findK_at hz hk]
theorem whoseE_fk (at0 sz at_ : Nat) (wh : List UInt8) : (((whoseE at0 sz wh at_).2 : Int) = 0 ↔ 0 ≤ fkI (findK at0 sz wh.length at_)) ∧ (fkI (findK at0 sz wh.length at_) < 0 → (whoseE at0 sz wh at_).2 = 2) := by
  unfold whoseE
  cases findK at0 sz wh.length at_ with
  | some k => exact ⟨by simp [fkI], fun h => by simp [fkI] at h; omega⟩
  | none => exact ⟨by simp [fkI], fun _ => rfl⟩

theorem lwhose_spec (q p q2 r at0 sz n : Nat) (wh : List UInt8) :
    Sat Try.prog 31 [.pointer (some ⟨q, 0, none⟩), .pointer (some ⟨q2, 0, none⟩)] [poolA q p at0 sz wh n, rpoolA q2 r at0 sz wh n] (fun u L' => u = .bool true ∧ L' = [poolA q p at0 sz wh n, rpoolA q2 r at0 sz wh n]) := by
  refine Sat.enter Try.func31 rfl Try.ntmps31 rfl (fun c R => ?_)
  try simp only [List.cons_append, List.nil_append]
  refine T.seq ?_
  refine T.reg ?_
  refine TO.p (DP.as (by conv => lhs; whnf)) ?_
  refine TO.nil ?_
  refine TQ.nn ?_
  refine T.seq ?_
  refine T.seq ?_
  refine T.reg ?_
  refine TO.p (DP.mv (by conv => lhs; whnf)) ?_
  refine TO.p (DP.peqS rfl rfl Try.underlying46) ?_
  refine TO.nil ?_
  refine TQ.nn ?_
  refine T.condF rfl ?_
  refine T.skip ?_
  refine TQ.nn ?_
  refine T.seq ?_
  refine T.seq ?_
  refine T.openA (.tail (.head _ _)) ?_
  rintro wb hp
  simp only [List.cons_append, List.nil_append]
  refine T.reg ?_
  refine TO.p (DP.as (by conv => lhs; whnf)) ?_
  refine TO.nil ?_
  refine TQ.nn ?_
  refine T.block ?_
  refine T.loop (S := Nat) 0 (fun i => [(0, .pointer (some ⟨q, 0, none⟩)), (1, .pointer (some ⟨q2, 0, none⟩)), (5, .int .i64 (i : Nat))]) (fun i => row 94 q2 [.pointer (some ⟨r, 0, none⟩), .int .u32 at0, .int .i64 sz, .slice (some ⟨wb, 0, none⟩) wh.length wh.length] :: row 5 wb (wh.map byteV) :: poolA q p at0 sz wh n :: R) (fun i => i ≤ wh.length) (fun i => wh.length - i) ?_ ?_ ?_ ?_
  · (repeat first | exact trivial | refine ⟨rfl, ?_⟩)
  · (first | trivial | omega | simp)
  · exact Ent.refl _ _
  rintro i g hI
  refine T.seq ?_
  refine T.seq ?_
  refine T.reg ?_
  refine TO.p (DP.mv (by conv => lhs; whnf)) ?_
  refine TO.p (DP.mv (by conv => lhs; whnf)) ?_
  refine TO.p (DP.nck rfl) ?_
  refine TO.p (DP.fa 3 rfl Try.underlying94 rfl rfl sz49) ?_
  refine TO.d (D.ldR rfl pl49 (by (repeat first | exact LMem.head _ _ | apply LMem.tail)) (by rfl)) ?_
  refine TO.p (DP.lenS rfl Try.underlying49) ?_
  refine TO.p (DP.lss rfl rfl) ?_
  refine TO.nil ?_
  refine TQ.nn ?_
  refine T.condD rfl (fun hc1 => ?_) (fun hc1 => ?_)
  · have him := Nat.mul_le_mul_right sz (show i + 1 ≤ wh.length by omega)
    rw [Nat.succ_mul] at him
    have hn1 := hp.hn
    have hn2 := hp.hn2
    have hz := hp.hz
    have hc9 := hp.hc
    have hwe := whoseE_at (at0 := at0) (wh := wh) hp.hz hc1
    have hwi := wAt_eq hc1
    obtain ⟨hf1, hf2⟩ := whoseE_fk at0 sz (at0 + i * sz + 1) wh
    refine T.skip ?_
    refine TQ.nn ?_
    refine T.seq ?_
    refine T.block ?_
    refine T.seq ?_
    refine T.drawL [] mixed (by repeat first | exact Calm.rt | apply Calm.t | apply Calm.b | apply Calm.l | apply Calm.ct) ?_
    refine TR.p 0 rfl (by kernel_rfl) (DP.mv (by conv => lhs; whnf)) ?_
    refine TR.p 1 rfl (by kernel_rfl) (DP.nck rfl) ?_
    refine TR.p 2 rfl (by kernel_rfl) (DP.fa 1 rfl Try.underlying94 rfl rfl sz30) ?_
    refine TR.d 3 rfl (by kernel_rfl) (by kernel_rfl) (by (refine Ent.imp ?_; repeat first | exact Imp.refl _ | exact Imp.nil _ | (apply Imp.pull; focus ((repeat first | exact Del.head _ _ | apply Del.tail); done)) | (apply Imp.row; focus ((repeat first | exact Del.head _ _ | apply Del.tail); done)) | apply Imp.drop)) (D.ldR rfl pl30 (by (repeat first | exact LMem.head _ _ | apply LMem.tail)) (by rfl)) ?_
    refine TR.p 4 rfl (by kernel_rfl) (DP.mv (by conv => lhs; whnf)) ?_
    refine TR.p 5 rfl (by kernel_rfl) (DP.mv (by conv => lhs; whnf)) ?_
    refine TR.p 6 rfl (by kernel_rfl) (DP.nck rfl) ?_
    refine TR.p 7 rfl (by kernel_rfl) (DP.fa 2 rfl Try.underlying94 rfl rfl sz3) ?_
    refine TR.d 8 rfl (by kernel_rfl) (by kernel_rfl) (by (refine Ent.imp ?_; repeat first | exact Imp.refl _ | exact Imp.nil _ | (apply Imp.pull; focus ((repeat first | exact Del.head _ _ | apply Del.tail); done)) | (apply Imp.row; focus ((repeat first | exact Del.head _ _ | apply Del.tail); done)) | apply Imp.drop)) (D.ldR rfl pl3 (by (repeat first | exact LMem.head _ _ | apply LMem.tail)) (by rfl)) ?_
    refine TR.p 9 rfl (by kernel_rfl) (DP.mul rfl rfl (l := 9223372036854775808) rfl (by omega)) ?_
    refine TR.p 10 rfl (by kernel_rfl) (DP.cv rfl is3 Try.underlying30 (l := 4294967296) rfl (by omega)) ?_
    refine TR.p 11 rfl (by kernel_rfl) (DP.add rfl rfl (l := 4294967296) rfl (by omega)) ?_
    refine TR.p 12 rfl (by kernel_rfl) (DP.as (by conv => lhs; whnf)) ?_
    refine TR.done (by kernel_rfl) ?_
    refine TQ.nn ?_
    refine T.seq ?_
    refine T.reg ?_
    refine TO.p (DP.mv (by conv => lhs; whnf)) ?_
    refine TO.p (DP.mv (by conv => lhs; whnf)) ?_
    refine TO.n (N.callF (whoseA q p at0 sz n (at0 + i * sz) wh (by omega)) Try.call35 ⟨rfl, rfl, trivial⟩ (by (repeat first | exact Pick.nil _ | (apply Pick.cons; focus ((repeat first | exact Del.head _ _ | apply Del.tail); done))))) ?_
    rintro u38 _ ⟨_, ⟨rfl, rfl⟩, rfl⟩
    try simp only [List.cons_append, List.nil_append]
    rw [hwe]
    refine TO.p (DP.mv (by conv => lhs; whnf)) ?_
    refine TO.p (DP.ex rfl rfl) ?_
    refine TO.p (DP.ex rfl rfl) ?_
    refine TO.p (DP.as (by conv => lhs; whnf)) ?_
    refine TO.p (DP.as (by conv => lhs; whnf)) ?_
    refine TO.nil ?_
    refine TQ.nn ?_
    refine T.seq ?_
    refine T.seq ?_
    refine T.reg ?_
    refine TO.p (DP.mv (by conv => lhs; whnf)) ?_
    refine TO.p (DP.mv (by conv => lhs; whnf)) ?_
    refine TO.p (DP.nck rfl) ?_
    refine TO.p (DP.fa 3 rfl Try.underlying94 rfl rfl sz49) ?_
    refine TO.d (D.ldR rfl pl49 (by (repeat first | exact LMem.head _ _ | apply LMem.tail)) (by rfl)) ?_
    refine TO.p (DP.mv (by conv => lhs; whnf)) ?_
    refine TO.p (DP.to (v' := .pointer (some ⟨wb, i, none⟩)) (DP.ias rfl rfl Try.underlying49 sz5 hc1) (by simp)) ?_
    refine TO.d (D.ldR (v := byteV (wAt wh i)) rfl pl5 (by (repeat first | exact LMem.head _ _ | apply LMem.tail)) (map_byte hwi)) ?_
    refine TO.p (DP.to (v' := .bool false) (DP.neq (a := (wAt wh i).toNat) (b := (wAt wh i).toNat) rfl rfl) (by simp)) ?_
    refine TO.p (DP.mv (by conv => lhs; whnf)) ?_
    refine TO.onP rfl (DP.mv (by conv => lhs; whnf)) ?_
    refine TO.onP rfl (DP.to (v' := .bool false) (DP.neq (a := 0) (b := 0) rfl rfl) (by simp)) ?_
    refine TO.p (DP.pkF rfl (by conv => lhs; whnf)) ?_
    refine TO.nil ?_
    refine TQ.nn ?_
    refine T.condF rfl ?_
    refine T.skip ?_
    refine TQ.nn ?_
    refine T.seq ?_
    refine T.reg ?_
    refine TO.p (DP.mv (by conv => lhs; whnf)) ?_
    refine TO.p (DP.mv (by conv => lhs; whnf)) ?_
    refine TO.p (DP.add (b := 1) rfl rfl (l := 4294967296) rfl (by omega)) ?_
    refine TO.n (N.callF (whoseA q p at0 sz n (at0 + i * sz + 1) wh (by omega)) Try.call35 ⟨rfl, rfl, trivial⟩ (by (repeat first | exact Pick.nil _ | (apply Pick.cons; focus ((repeat first | exact Del.head _ _ | apply Del.tail); done))))) ?_
    rintro u58 _ ⟨_, ⟨rfl, rfl⟩, rfl⟩
    try simp only [List.cons_append, List.nil_append]
    refine TO.p (DP.mv (by conv => lhs; whnf)) ?_
    refine TO.p (DP.ex rfl rfl) ?_
    refine TO.p (DP.ex rfl rfl) ?_
    refine TO.p (DP.as (by conv => lhs; whnf)) ?_
    refine TO.p (DP.as (by conv => lhs; whnf)) ?_
    refine TO.nil ?_
    refine TQ.nn ?_
    refine T.seq ?_
    refine T.reg ?_
    refine TO.p (DP.mv (by conv => lhs; whnf)) ?_
    refine TO.p (DP.mv (by conv => lhs; whnf)) ?_
    refine TO.p (DP.add (b := 1) rfl rfl (l := 4294967296) rfl (by omega)) ?_
    refine TO.n (N.callF (rfindI q2 r wb at0 sz wh (at0 + i * sz + 1) hp.h0 hp.hz hp.hz2 hp.hc (by omega)) Try.call65 ⟨rfl, rfl, trivial⟩ (by (repeat first | exact Pick.nil _ | (apply Pick.cons; focus ((repeat first | exact Del.head _ _ | apply Del.tail); done))))) ?_
    rintro u64 _ ⟨_, ⟨rfl, rfl⟩, rfl⟩
    try simp only [List.cons_append, List.nil_append]
    refine TO.p (DP.as (by conv => lhs; whnf)) ?_
    refine TO.nil ?_
    refine TQ.nn ?_
    refine T.seq ?_
    refine T.reg ?_
    refine TO.p (DP.mv (by conv => lhs; whnf)) ?_
    refine TO.p (DP.eqlI rfl rfl) ?_
    refine TO.p (DP.mv (by conv => lhs; whnf)) ?_
    refine TO.p (DP.geqI rfl rfl) ?_
    refine TO.p (DP.to (v' := .bool false) (DP.bneq rfl rfl Try.underlying4) (by simp only [hf1, beq_self_eq_true, Bool.not_true])) ?_
    refine TO.p (DP.mv (by conv => lhs; whnf)) ?_
    refine TO.onP rfl (DP.mv (by conv => lhs; whnf)) ?_
    refine TO.onP rfl (DP.geqI rfl rfl) ?_
    refine TO.onB rfl (DP.mv (by conv => lhs; whnf)) (fun hg73 => ?_) (fun hg73 => ?_)
    · obtain ⟨k, hk⟩ : ∃ k, findK at0 sz wh.length (at0 + i * sz + 1) = some k := by
        cases hk : findK at0 sz wh.length (at0 + i * sz + 1) with
        | some k => exact ⟨k, rfl⟩
        | none => rw [hk] at hg73; simp [fkI] at hg73
      obtain ⟨hk1, hk2⟩ := findK_some hk
      have hw2 : whoseE at0 sz wh (at0 + i * sz + 1) = (wAt wh k, 0) := by unfold whoseE; rw [hk]
      rw [hw2, hk]
      have hwk := wAt_eq hk1
      refine TO.onP rfl (DP.mv (by conv => lhs; whnf)) ?_
      refine TO.onP rfl (DP.mv (by conv => lhs; whnf)) ?_
      refine TO.onP rfl (DP.nck rfl) ?_
      refine TO.onP rfl (DP.fa 3 rfl Try.underlying94 rfl rfl sz49) ?_
      refine TO.onD rfl (D.ldR rfl pl49 (by (repeat first | exact LMem.head _ _ | apply LMem.tail)) (by rfl)) ?_
      refine TO.onP rfl (DP.mv (by conv => lhs; whnf)) ?_
      refine TO.onP rfl (DP.to (v' := .pointer (some ⟨wb, k, none⟩)) (DP.ias (i := k) rfl rfl Try.underlying49 sz5 hk1) (by simp)) ?_
      refine TO.onD rfl (D.ldR (v := byteV (wAt wh k)) rfl pl5 (by (repeat first | exact LMem.head _ _ | apply LMem.tail)) (map_byte hwk)) ?_
      refine TO.onP rfl (DP.to (v' := .bool false) (DP.neq (a := (wAt wh k).toNat) (b := (wAt wh k).toNat) rfl rfl) (by simp)) ?_
      refine TO.onP rfl (DP.pkT rfl (by conv => lhs; whnf)) ?_
      refine TO.p (DP.pkF rfl (by conv => lhs; whnf)) ?_
      refine TO.p (DP.mv (by conv => lhs; whnf)) ?_
      refine TO.onP rfl (DP.mv (by conv => lhs; whnf)) ?_
      refine TO.onP rfl (DP.to (v' := .bool false) (DP.lssI (a := (k : Int)) (b := 0) rfl rfl) (by simp)) ?_
      refine TO.onP rfl (DP.mv (by conv => lhs; whnf)) ?_
      refine TO.off rfl rfl ?_
      refine TO.off rfl rfl ?_
      refine TO.onP rfl (DP.pkF rfl (by conv => lhs; whnf)) ?_
      refine TO.p (DP.pkF rfl (by conv => lhs; whnf)) ?_
      refine TO.nil ?_
      refine TQ.nn ?_
      refine T.condF rfl ?_
      refine T.skip ?_
      refine TQ.bn ?_
      refine TQ.nn ?_
      refine T.reg ?_
      refine TO.p (DP.mv (by conv => lhs; whnf)) ?_
      refine TO.p (DP.add (b := 1) rfl rfl (l := 9223372036854775808) rfl (by omega)) ?_
      refine TO.p (DP.as (by conv => lhs; whnf)) ?_
      refine TO.nil ?_
      refine TQ.round (i + 1) rfl ?_ ?_ ?_ ?_
      · (repeat first | exact trivial | refine ⟨rfl, ?_⟩)
      · omega
      · omega
      · exact Ent.refl _ _
    · refine TO.off rfl rfl ?_
      refine TO.off rfl rfl ?_
      refine TO.off rfl rfl ?_
      refine TO.off rfl rfl ?_
      refine TO.off rfl rfl ?_
      refine TO.off rfl rfl ?_
      refine TO.off rfl rfl ?_
      refine TO.off rfl rfl ?_
      refine TO.off rfl rfl ?_
      refine TO.onP rfl (DP.pkF rfl (by conv => lhs; whnf)) ?_
      refine TO.p (DP.pkF rfl (by conv => lhs; whnf)) ?_
      refine TO.p (DP.mv (by conv => lhs; whnf)) ?_
      refine TO.onP rfl (DP.mv (by conv => lhs; whnf)) ?_
      refine TO.onP rfl (DP.lssI rfl rfl) ?_
      refine TO.onB rfl (DP.mv (by conv => lhs; whnf)) (fun hg88 => ?_) (fun hg88 => ?_)
      · have h22 := hf2 hg88
        rw [h22]
        refine TO.onP rfl (DP.mv (by conv => lhs; whnf)) ?_
        refine TO.onP rfl (DP.to (v' := .bool false) (DP.neqI (a := 2) (b := 2) rfl rfl) (by simp)) ?_
        refine TO.onP rfl (DP.pkT rfl (by conv => lhs; whnf)) ?_
        refine TO.p (DP.pkF rfl (by conv => lhs; whnf)) ?_
        refine TO.nil ?_
        refine TQ.nn ?_
        refine T.condF rfl ?_
        refine T.skip ?_
        refine TQ.bn ?_
        refine TQ.nn ?_
        refine T.reg ?_
        refine TO.p (DP.mv (by conv => lhs; whnf)) ?_
        refine TO.p (DP.add (b := 1) rfl rfl (l := 9223372036854775808) rfl (by omega)) ?_
        refine TO.p (DP.as (by conv => lhs; whnf)) ?_
        refine TO.nil ?_
        refine TQ.round (i + 1) rfl ?_ ?_ ?_ ?_
        · (repeat first | exact trivial | refine ⟨rfl, ?_⟩)
        · omega
        · omega
        · exact Ent.refl _ _
      · exact absurd (Int.not_le.1 hg73) hg88
  · refine T.exit ?_
    refine TQ.ne ?_
    refine TQ.le ?_
    refine TQ.be ?_
    refine TQ.nn ?_
    refine T.seq ?_
    refine T.reg ?_
    refine TO.p (DP.as (by conv => lhs; whnf)) ?_
    refine TO.nil ?_
    refine TQ.nn ?_
    refine T.ret ?_
    refine TQ.ret (vs := [.bool true]) (L' := [poolA q p at0 sz wh n, rpoolA q2 r at0 sz wh n]) rfl ⟨rfl, rfl⟩ ⟨rfl, rfl⟩ (by simp only [List.cons_append, List.nil_append]; refine Ent.imp ?_; refine Imp.trans (L' := rpoolA q2 r at0 sz wh n :: poolA q p at0 sz wh n :: R) (Imp.shutA wb hp (by simp only [List.cons_append, List.nil_append]; (repeat first | exact Imp.refl _ | exact Imp.nil _ | (apply Imp.pull; focus ((repeat first | exact Del.head _ _ | apply Del.tail); done)) | apply Imp.drop))) (Imp.perm (List.Perm.swap _ _ _)))

theorem lwhose_nil  :
    Sat Try.prog 31 [.pointer none, .pointer none] [] (fun u L' => u = .bool true ∧ L' = []) := by
  refine Sat.enter Try.func31 rfl Try.ntmps31 rfl (fun c R => ?_)
  try simp only [List.cons_append, List.nil_append]
  refine T.seq ?_
  refine T.reg ?_
  refine TO.p (DP.as (by conv => lhs; whnf)) ?_
  refine TO.nil ?_
  refine TQ.nn ?_
  refine T.seq ?_
  refine T.seq ?_
  refine T.reg ?_
  refine TO.p (DP.mv (by conv => lhs; whnf)) ?_
  refine TO.p (DP.peq0 rfl rfl Try.underlying46) ?_
  refine TO.nil ?_
  refine TQ.nn ?_
  refine T.condT rfl ?_
  refine T.seq ?_
  refine T.reg ?_
  refine TO.p (DP.as (by conv => lhs; whnf)) ?_
  refine TO.nil ?_
  refine TQ.nn ?_
  refine T.ret ?_
  refine TQ.nr ?_
  refine TQ.ret (vs := [.bool true]) (L' := []) rfl ⟨rfl, rfl⟩ ⟨rfl, rfl⟩ (by (refine Ent.imp ?_; repeat first | exact Imp.refl _ | exact Imp.nil _ | (apply Imp.pull; focus ((repeat first | exact Del.head _ _ | apply Del.tail); done)) | (apply Imp.row; focus ((repeat first | exact Del.head _ _ | apply Del.tail); done)) | apply Imp.drop))
end Go.Proofs.Ytpidkdkbgjnhlaa
