/- Lemmas for the proofs of this seat: no statement of the seat is claimed here. -/
import Derived.Test.YtfgpnipnaaeafaaKd
set_option linter.all false

namespace Go.Proofs.Ytfgpnipnaaeafaa
open Go Pw
set_option maxRecDepth 20000
theorem end_spec (a l : Nat) (h1 : a < 4294967296) (h2 : l < 4294967296) :
    Sat Try.prog 65 [.agg #[.int .u32 a, .int .u32 l]] [] (fun v L' => v = .int .u64 ((a + l : Nat) : Int) ∧ L' = []) := by
  refine Sat.enter Try.func65 rfl Try.ntmps65 rfl (fun c R => ?_)
  try simp only [List.cons_append, List.nil_append]
  refine T.seq ?_
  refine T.reg ?_
  refine TO.n (N.bxA rfl) ?_
  rintro _ _ ⟨b1, rfl, rfl⟩
  refine TO.p (DP.as (by conv => lhs; whnf)) ?_
  refine TO.nil ?_
  refine TQ.nn ?_
  refine T.seq ?_
  refine T.reg ?_
  refine TO.p (DP.fa 0 rfl Try.underlying110 rfl rfl sz30) ?_
  refine TO.d (D.ldR rfl pl30 (by (repeat first | exact LMem.head _ _ | apply LMem.tail)) (by rfl)) ?_
  refine TO.p (DP.cv rfl is30 Try.underlying63 (l := 18446744073709551616) rfl (by omega)) ?_
  refine TO.p (DP.fa 1 rfl Try.underlying110 rfl rfl sz30) ?_
  refine TO.d (D.ldR rfl pl30 (by (repeat first | exact LMem.head _ _ | apply LMem.tail)) (by rfl)) ?_
  refine TO.p (DP.cv rfl is30 Try.underlying63 (l := 18446744073709551616) rfl (by omega)) ?_
  refine TO.p (DP.add rfl rfl (l := 18446744073709551616) rfl (by omega)) ?_
  refine TO.p (DP.as (by conv => lhs; whnf)) ?_
  refine TO.nil ?_
  refine TQ.nn ?_
  refine T.ret ?_
  refine TQ.ret (vs := [.int .u64 ((a + l : Nat) : Int)]) (L' := []) rfl ⟨rfl, rfl⟩ ⟨rfl, rfl⟩ (by (refine Ent.imp ?_; repeat first | exact Imp.refl _ | exact Imp.nil _ | (apply Imp.pull; focus ((repeat first | exact Del.head _ _ | apply Del.tail); done)) | (apply Imp.row; focus ((repeat first | exact Del.head _ _ | apply Del.tail); done)) | apply Imp.drop))

theorem new_bad (n : Int) (hn : n < 1 ∨ 1048576 < n) :
    Sat Try.prog 8 [.int .i64 n] [] (fun v L' => v = .tuple #[.pointer none, .int .i64 2] ∧ L' = []) := by
  refine Sat.enter Try.func8 rfl Try.ntmps8 rfl (fun c R => ?_)
  try simp only [List.cons_append, List.nil_append]
  refine T.seq ?_
  refine T.reg ?_
  refine TO.p (DP.as (by conv => lhs; whnf)) ?_
  refine TO.p (DP.as (by conv => lhs; whnf)) ?_
  refine TO.nil ?_
  refine TQ.nn ?_
  refine T.seq ?_
  refine T.seq ?_
  refine T.reg ?_
  refine TO.p (DP.mv (by conv => lhs; whnf)) ?_
  refine TO.p (DP.lssI rfl rfl) ?_
  refine TO.pB (DP.mv (by conv => lhs; whnf)) (fun hg6 => ?_) (fun hg6 => ?_)
  · refine TO.off rfl rfl ?_
    refine TO.off rfl rfl ?_
    refine TO.p (DP.pkT rfl (by conv => lhs; whnf)) ?_
    refine TO.nil ?_
    refine TQ.nn ?_
    refine T.condT rfl ?_
    refine T.seq ?_
    refine T.reg ?_
    refine TO.p (DP.as (by conv => lhs; whnf)) ?_
    refine TO.p (DP.as (by conv => lhs; whnf)) ?_
    refine TO.nil ?_
    refine TQ.nn ?_
    refine T.ret ?_
    refine TQ.nr ?_
    refine TQ.ret (vs := [.pointer none, .int .i64 2]) (L' := []) rfl ⟨rfl, rfl, rfl⟩ ⟨rfl, rfl⟩ (by (refine Ent.imp ?_; repeat first | exact Imp.refl _ | exact Imp.nil _ | (apply Imp.pull; focus ((repeat first | exact Del.head _ _ | apply Del.tail); done)) | (apply Imp.row; focus ((repeat first | exact Del.head _ _ | apply Del.tail); done)) | apply Imp.drop))
  · refine TO.onP rfl (DP.mv (by conv => lhs; whnf)) ?_
    refine TO.onP rfl (DP.gtrI rfl rfl) ?_
    refine TO.p (DP.pkF rfl (by conv => lhs; whnf)) ?_
    refine TO.nil ?_
    refine TQ.nn ?_
    refine T.condD rfl (fun hc0 => ?_) (fun hc0 => ?_)
    · refine T.seq ?_
      refine T.reg ?_
      refine TO.p (DP.as (by conv => lhs; whnf)) ?_
      refine TO.p (DP.as (by conv => lhs; whnf)) ?_
      refine TO.nil ?_
      refine TQ.nn ?_
      refine T.ret ?_
      refine TQ.nr ?_
      refine TQ.ret (vs := [.pointer none, .int .i64 2]) (L' := []) rfl ⟨rfl, rfl, rfl⟩ ⟨rfl, rfl⟩ (by (refine Ent.imp ?_; repeat first | exact Imp.refl _ | exact Imp.nil _ | (apply Imp.pull; focus ((repeat first | exact Del.head _ _ | apply Del.tail); done)) | (apply Imp.row; focus ((repeat first | exact Del.head _ _ | apply Del.tail); done)) | apply Imp.drop))
    · (exfalso; omega)

theorem new_ok (n : Nat) (h1 : 1 ≤ n) (h2 : n ≤ 1048576) :
    Sat Try.prog 8 [.int .i64 n] [] (fun v L' => ∃ p b, v = .tuple #[.pointer (some ⟨p, 0, none⟩), .int .i64 0] ∧ L' = [row 70 p [.slice (some ⟨b, 0, none⟩) n n, .slice none 0 0], row 5 b (List.replicate n (.int .u8 0))]) := by
  refine Sat.enter Try.func8 rfl Try.ntmps8 rfl (fun c R => ?_)
  try simp only [List.cons_append, List.nil_append]
  refine T.seq ?_
  refine T.reg ?_
  refine TO.p (DP.as (by conv => lhs; whnf)) ?_
  refine TO.p (DP.as (by conv => lhs; whnf)) ?_
  refine TO.nil ?_
  refine TQ.nn ?_
  refine T.seq ?_
  refine T.seq ?_
  refine T.reg ?_
  refine TO.p (DP.mv (by conv => lhs; whnf)) ?_
  refine TO.p (DP.lss (b := 1) rfl rfl) ?_
  refine TO.pB (DP.mv (by conv => lhs; whnf)) (fun hg6 => ?_) (fun hg6 => ?_)
  · refine TO.off rfl rfl ?_
    refine TO.off rfl rfl ?_
    refine TO.p (DP.pkT rfl (by conv => lhs; whnf)) ?_
    refine TO.nil ?_
    refine TQ.nn ?_
    refine T.condT rfl ?_
    (exfalso; omega)
  · refine TO.onP rfl (DP.mv (by conv => lhs; whnf)) ?_
    refine TO.onP rfl (DP.gtr (b := 1048576) rfl rfl) ?_
    refine TO.p (DP.pkF rfl (by conv => lhs; whnf)) ?_
    refine TO.nil ?_
    refine TQ.nn ?_
    refine T.condD rfl (fun hc0 => ?_) (fun hc0 => ?_)
    · (exfalso; omega)
    · refine T.skip ?_
      refine TQ.nn ?_
      refine T.seq ?_
      refine T.reg ?_
      refine TO.p (DP.mv (by conv => lhs; whnf)) ?_
      refine TO.n (N.mk rfl rfl Try.underlying59 sz5 by5 zr5 rfl rfl (by omega)) ?_
      rintro _ _ ⟨b11, rfl, rfl⟩
      have hfl : (List.replicate n [Value.int .u8 0]).flatten = List.replicate n (.int .u8 0) := by simp
      rw [hfl]
      refine TO.p (DP.bdL (vs := [(0, _)]) (us := [_, _]) ⟨rfl, (by conv => lhs; whnf), trivial⟩ pc70 zr70 rfl) ?_
      refine TO.n (N.bxA rfl) ?_
      rintro _ _ ⟨b13, rfl, rfl⟩
      refine TO.p (DP.as (by conv => lhs; whnf)) ?_
      refine TO.p (DP.as (by conv => lhs; whnf)) ?_
      refine TO.nil ?_
      refine TQ.nn ?_
      refine T.ret ?_
      refine TQ.ret (vs := [.pointer (some ⟨b13, 0, none⟩), .int .i64 0]) (L' := [_, _]) rfl ⟨rfl, rfl, rfl⟩ ⟨_, _, rfl, rfl⟩ (Ent.refl _ _)

theorem size_spec (p n m : Nat) (a : Option Addr) (v : Value) :
    Sat Try.prog 67 [.pointer (some ⟨p, 0, none⟩)] [row 70 p [.slice a n m, v]] (fun u L' => u = .int .i64 n ∧ L' = [row 70 p [.slice a n m, v]]) := by
  refine Sat.enter Try.func67 rfl Try.ntmps67 rfl (fun c R => ?_)
  try simp only [List.cons_append, List.nil_append]
  refine T.seq ?_
  refine T.reg ?_
  refine TO.p (DP.as (by conv => lhs; whnf)) ?_
  refine TO.nil ?_
  refine TQ.nn ?_
  refine T.seq ?_
  refine T.seq ?_
  refine T.reg ?_
  refine TO.p (DP.mv (by conv => lhs; whnf)) ?_
  refine TO.p (DP.peqS rfl rfl Try.underlying25) ?_
  refine TO.nil ?_
  refine TQ.nn ?_
  refine T.condF rfl ?_
  refine T.skip ?_
  refine TQ.nn ?_
  refine T.seq ?_
  refine T.reg ?_
  refine TO.p (DP.mv (by conv => lhs; whnf)) ?_
  refine TO.p (DP.nck rfl) ?_
  refine TO.p (DP.fa 0 rfl Try.underlying70 rfl rfl sz59) ?_
  refine TO.d (D.ldR rfl pl59 (by (repeat first | exact LMem.head _ _ | apply LMem.tail)) (by rfl)) ?_
  refine TO.p (DP.lenS rfl Try.underlying59) ?_
  refine TO.p (DP.as (by conv => lhs; whnf)) ?_
  refine TO.nil ?_
  refine TQ.nn ?_
  refine T.ret ?_
  refine TQ.ret (vs := [.int .i64 n]) (L' := [_]) rfl ⟨rfl, rfl⟩ ⟨rfl, rfl⟩ (Ent.refl _ _)

theorem size_nil : Sat Try.prog 67 [.pointer none] [] (fun u L' => u = .int .i64 0 ∧ L' = []) := by
  refine Sat.enter Try.func67 rfl Try.ntmps67 rfl (fun c R => ?_)
  try simp only [List.cons_append, List.nil_append]
  refine T.seq ?_
  refine T.reg ?_
  refine TO.p (DP.as (by conv => lhs; whnf)) ?_
  refine TO.nil ?_
  refine TQ.nn ?_
  refine T.seq ?_
  refine T.seq ?_
  refine T.reg ?_
  refine TO.p (DP.mv (by conv => lhs; whnf)) ?_
  refine TO.p (DP.peq0 rfl rfl Try.underlying25) ?_
  refine TO.nil ?_
  refine TQ.nn ?_
  refine T.condT rfl ?_
  refine T.seq ?_
  refine T.reg ?_
  refine TO.p (DP.as (by conv => lhs; whnf)) ?_
  refine TO.nil ?_
  refine TQ.nn ?_
  refine T.ret ?_
  refine TQ.nr ?_
  refine TQ.ret (vs := [.int .i64 0]) (L' := []) rfl ⟨rfl, rfl⟩ ⟨rfl, rfl⟩ (by (refine Ent.imp ?_; repeat first | exact Imp.refl _ | exact Imp.nil _ | (apply Imp.pull; focus ((repeat first | exact Del.head _ _ | apply Del.tail); done)) | (apply Imp.row; focus ((repeat first | exact Del.head _ _ | apply Del.tail); done)) | apply Imp.drop))

theorem part_ok (p n at_ : Nat) (m : Nat) (b : Nat) (v : Value) (hn : n ≤ 1048576) (ha : at_ < 4294967296) (h : at_ + m ≤ n) :
    Sat Try.prog 41 [.pointer (some ⟨p, 0, none⟩), .int .u32 at_, .int .i64 m] [row 70 p [.slice (some ⟨b, 0, none⟩) n n, v]] (fun u L' => u = .tuple #[.slice (some ⟨b, if m = 0 then 0 else at_, none⟩) m m, .int .i64 0] ∧ L' = [row 70 p [.slice (some ⟨b, 0, none⟩) n n, v]]) := by
  refine Sat.enter Try.func41 rfl Try.ntmps41 rfl (fun c R => ?_)
  try simp only [List.cons_append, List.nil_append]
  refine T.seq ?_
  refine T.reg ?_
  refine TO.p (DP.as (by conv => lhs; whnf)) ?_
  refine TO.p (DP.as (by conv => lhs; whnf)) ?_
  refine TO.nil ?_
  refine TQ.nn ?_
  refine T.seq ?_
  refine T.block ?_
  refine T.seq ?_
  refine T.reg ?_
  refine TO.p (DP.mv (by conv => lhs; whnf)) ?_
  refine TO.p (DP.peqS rfl rfl Try.underlying25) ?_
  refine TO.p (DP.as (by conv => lhs; whnf)) ?_
  refine TO.nil ?_
  refine TQ.nn ?_
  refine T.condF rfl ?_
  refine T.seq ?_
  refine T.reg ?_
  refine TO.p (DP.mv (by conv => lhs; whnf)) ?_
  refine TO.p (DP.mv (by conv => lhs; whnf)) ?_
  refine TO.p (DP.nck rfl) ?_
  refine TO.p (DP.fa 0 rfl Try.underlying70 rfl rfl sz59) ?_
  refine TO.d (D.ldR rfl pl59 (by (repeat first | exact LMem.head _ _ | apply LMem.tail)) (by rfl)) ?_
  refine TO.p (DP.lenS rfl Try.underlying59) ?_
  refine TO.p (DP.gtr rfl rfl) ?_
  refine TO.pB (DP.mv (by conv => lhs; whnf)) (fun hg19 => ?_) (fun hg19 => ?_)
  · (exfalso; omega)
  · refine TO.onP rfl (DP.mv (by conv => lhs; whnf)) ?_
    refine TO.onP rfl (DP.cv rfl is30 Try.underlying63 (l := 18446744073709551616) rfl (by omega)) ?_
    refine TO.onP rfl (DP.mv (by conv => lhs; whnf)) ?_
    refine TO.onP rfl (DP.cv rfl is3 Try.underlying63 (l := 18446744073709551616) rfl (by omega)) ?_
    refine TO.onP rfl (DP.add rfl rfl (l := 18446744073709551616) rfl (by omega)) ?_
    refine TO.onP rfl (DP.mv (by conv => lhs; whnf)) ?_
    refine TO.onP rfl (DP.nck rfl) ?_
    refine TO.onP rfl (DP.fa 0 rfl Try.underlying70 rfl rfl sz59) ?_
    refine TO.onD rfl (D.ldR rfl pl59 (by (repeat first | exact LMem.head _ _ | apply LMem.tail)) (by rfl)) ?_
    refine TO.onP rfl (DP.lenS rfl Try.underlying59) ?_
    refine TO.onP rfl (DP.cv rfl is3 Try.underlying63 (l := 18446744073709551616) rfl (by omega)) ?_
    refine TO.onP rfl (DP.gtr rfl rfl) ?_
    refine TO.p (DP.pkF rfl (by conv => lhs; whnf)) ?_
    refine TO.p (DP.as (by conv => lhs; whnf)) ?_
    refine TO.nil ?_
    refine TQ.nn ?_
    refine T.condD rfl (fun hc1 => ?_) (fun hc1 => ?_)
    · (exfalso; omega)
    · refine T.skip ?_
      refine TQ.bn ?_
      refine TQ.nn ?_
      refine T.seq ?_
      refine T.reg ?_
      refine TO.p (DP.mv (by conv => lhs; whnf)) ?_
      refine TO.p (DP.nck rfl) ?_
      refine TO.p (DP.fa 0 rfl Try.underlying70 rfl rfl sz59) ?_
      refine TO.d (D.ldR rfl pl59 (by (repeat first | exact LMem.head _ _ | apply LMem.tail)) (by rfl)) ?_
      refine TO.p (DP.mv (by conv => lhs; whnf)) ?_
      refine TO.p (DP.mv (by conv => lhs; whnf)) ?_
      refine TO.p (DP.cv rfl is30 Try.underlying3 (l := 9223372036854775808) rfl (by omega)) ?_
      refine TO.p (DP.mv (by conv => lhs; whnf)) ?_
      refine TO.p (DP.add rfl rfl (l := 9223372036854775808) rfl (by omega)) ?_
      refine TO.p (DP.mv (by conv => lhs; whnf)) ?_
      refine TO.p (DP.cv rfl is30 Try.underlying3 (l := 9223372036854775808) rfl (by omega)) ?_
      refine TO.p (DP.mv (by conv => lhs; whnf)) ?_
      refine TO.p (DP.add rfl rfl (l := 9223372036854775808) rfl (by omega)) ?_
      refine TO.p (DP.to (v' := .slice (some ⟨b, if m = 0 then 0 else at_, none⟩) m m) (DP.slSm (e := 5) (n := 0) rfl rfl rfl rfl Try.underlying59 sz5 (by omega) (by omega) (by omega)) (by by_cases h0 : m = 0 <;> simp [h0])) ?_
      refine TO.p (DP.as (by conv => lhs; whnf)) ?_
      refine TO.p (DP.as (by conv => lhs; whnf)) ?_
      refine TO.nil ?_
      refine TQ.nn ?_
      refine T.ret ?_
      refine TQ.ret (vs := [.slice (some ⟨b, if m = 0 then 0 else at_, none⟩) m m, .int .i64 0]) (L' := [_]) rfl ⟨rfl, rfl, rfl⟩ ⟨rfl, rfl⟩ (Ent.refl _ _)
end Go.Proofs.Ytfgpnipnaaeafaa


namespace Go.Proofs.Ytfgpnipnaaeafaa
open Go Pw
set_option maxRecDepth 20000
theorem shared_spec (p a l : Nat) (bv v : Value) (ss : List Spn) (hlen : ss.length ≤ 1048576) (hb : ∀ s ∈ ss, s.1 + s.2 ≤ 1048576) (ha : a < 4294967296) (hl : l < 4294967296) :
    Sat Try.prog 47 [.pointer (some ⟨p, 0, none⟩), .agg #[.int .u32 a, .int .u32 l]] [row 70 p [bv, v], sl 110 2 v ss.length (spans ss)] (fun u L' => u = .int .u64 (sharedN ss a l : Nat) ∧ L' = [row 70 p [bv, v], sl 110 2 v ss.length (spans ss)]) := by
  refine Sat.enter Try.func47 rfl Try.ntmps47 rfl (fun c R => ?_)
  try simp only [List.cons_append, List.nil_append]
  refine T.seq ?_
  refine T.reg ?_
  refine TO.n (N.bxA rfl) ?_
  rintro _ _ ⟨b3, rfl, rfl⟩
  refine TO.p (DP.as (by conv => lhs; whnf)) ?_
  refine TO.nil ?_
  refine TQ.nn ?_
  refine T.seq ?_
  refine T.seq ?_
  refine T.reg ?_
  refine TO.p (DP.mv (by conv => lhs; whnf)) ?_
  refine TO.p (DP.nck rfl) ?_
  refine TO.p (DP.fa 1 rfl Try.underlying70 rfl rfl sz68) ?_
  refine TO.d (D.ldR rfl pl68 (by (repeat first | exact LMem.head _ _ | apply LMem.tail)) (by rfl)) ?_
  refine TO.d (D.lenO (by conv => lhs; whnf) Try.underlying68 (by (repeat first | exact LMem.head _ _ | apply LMem.tail))) ?_
  refine TO.p (DP.mv (by conv => lhs; whnf)) ?_
  refine TO.nil ?_
  refine TQ.nn ?_
  refine T.block ?_
  refine T.loop (S := Nat) 0 (fun i => [(3, .pointer (some ⟨b3, 0, none⟩)), (4, .int .u64 ((sharedN (ss.take i) a l : Nat) : Int)), (12, v), (13, .int .i64 (ss.length : Nat)), (14, .int .i64 (i : Nat))]) (fun i => row 110 b3 [.int .u32 a, .int .u32 l] :: row 70 p [bv, v] :: sl 110 2 v ss.length (spans ss) :: R) (fun i => i ≤ ss.length) (fun i => ss.length - i) ?_ ?_ ?_ ?_
  · (repeat first | exact trivial | refine ⟨rfl, ?_⟩)
  · (first | trivial | omega | simp)
  · exact Ent.refl _ _
  rintro i g hI
  refine T.seq ?_
  refine T.reg ?_
  refine TO.p (DP.lss rfl rfl) ?_
  refine TO.nil ?_
  refine TQ.nn ?_
  refine T.seq ?_
  refine T.condD rfl (fun hc0 => ?_) (fun hc0 => ?_)
  · obtain ⟨s, hs⟩ := get_some hc0
    have hsb := hb s (mem_of_get hs)
    have hus := flat_elem spv_len hs
    have hst := sharedN_take_le ss i a l
    have hil := Nat.mul_le_mul (show i ≤ 1048576 by omega) (show l ≤ 4294967296 by omega)
    refine T.skip ?_
    refine TQ.nn ?_
    refine T.seq ?_
    refine T.block ?_
    refine T.seq ?_
    refine T.reg ?_
    refine TO.d (D.iasO (by conv => lhs; whnf) rfl Try.underlying68 sz110 (by (repeat first | exact LMem.head _ _ | apply LMem.tail)) (by omega)) ?_
    refine TO.d (D.ldOA (us := [.int .u32 s.1, .int .u32 s.2]) (by conv => lhs; whnf) ag110 sz110 (by (repeat first | exact LMem.head _ _ | apply LMem.tail)) (by omega) hus rfl) ?_
    refine TO.n (N.alA zr110) ?_
    rintro _ _ ⟨b6, rfl, rfl⟩
    refine TO.n0 (N.stA rfl rfl sz110 (by (repeat first | exact Put.head _ _ _ | apply Put.tail)) (by (simp [setAll])) (by (simp [Value.oneCell'])) (by rfl)) ?_
    rintro _ _ ⟨rfl, rfl⟩
    refine TO.nil ?_
    refine TQ.nn ?_
    refine T.seq ?_
    refine T.drawL [] mixed (by repeat first | exact Calm.rt | apply Calm.t | apply Calm.b | apply Calm.l | apply Calm.ct) ?_
    refine TR.p 0 rfl (by kernel_rfl) (DP.fa 0 rfl Try.underlying110 rfl rfl sz30) ?_
    refine TR.d 1 rfl (by kernel_rfl) (by kernel_rfl) (by (refine Ent.imp ?_; repeat first | exact Imp.refl _ | exact Imp.nil _ | (apply Imp.pull; focus ((repeat first | exact Del.head _ _ | apply Del.tail); done)) | (apply Imp.row; focus ((repeat first | exact Del.head _ _ | apply Del.tail); done)) | apply Imp.drop)) (D.ldR rfl pl30 (by (repeat first | exact LMem.head _ _ | apply LMem.tail)) (by rfl)) ?_
    refine TR.p 2 rfl (by kernel_rfl) (DP.fa 0 rfl Try.underlying110 rfl rfl sz30) ?_
    refine TR.d 3 rfl (by kernel_rfl) (by kernel_rfl) (by (refine Ent.imp ?_; repeat first | exact Imp.refl _ | exact Imp.nil _ | (apply Imp.pull; focus ((repeat first | exact Del.head _ _ | apply Del.tail); done)) | (apply Imp.row; focus ((repeat first | exact Del.head _ _ | apply Del.tail); done)) | apply Imp.drop)) (D.ldR rfl pl30 (by (repeat first | exact LMem.head _ _ | apply LMem.tail)) (by rfl)) ?_
    refine TR.p 4 rfl (by kernel_rfl) (DP.maxN rfl rfl) ?_
    refine TR.d 5 rfl (by kernel_rfl) (by kernel_rfl) (by (refine Ent.imp ?_; repeat first | exact Imp.refl _ | exact Imp.nil _ | (apply Imp.pull; focus ((repeat first | exact Del.head _ _ | apply Del.tail); done)) | (apply Imp.row; focus ((repeat first | exact Del.head _ _ | apply Del.tail); done)) | apply Imp.drop)) (D.ldRA rfl ag110 sz110 (by (repeat first | exact LMem.head _ _ | apply LMem.tail)) (by rfl)) ?_
    refine TR.d 7 rfl (by kernel_rfl) (by kernel_rfl) (by (refine Ent.imp ?_; repeat first | exact Imp.refl _ | exact Imp.nil _ | (apply Imp.pull; focus ((repeat first | exact Del.head _ _ | apply Del.tail); done)) | (apply Imp.row; focus ((repeat first | exact Del.head _ _ | apply Del.tail); done)) | apply Imp.drop)) (D.ldRA rfl ag110 sz110 (by (repeat first | exact LMem.head _ _ | apply LMem.tail)) (by rfl)) ?_
    refine TR.n 6 (by kernel_rfl) rfl (N.callF (end_spec s.1 s.2 (by omega) (by omega)) Try.call65 ⟨rfl, trivial⟩ (by (repeat first | exact Pick.nil _ | (apply Pick.cons; focus ((repeat first | exact Del.head _ _ | apply Del.tail); done))))) ?_
    rintro u24 _ ⟨_, ⟨rfl, rfl⟩, rfl⟩
    try simp only [List.cons_append, List.nil_append]
    refine ⟨.inr (by (refine Ent.imp ?_; repeat first | exact Imp.refl _ | exact Imp.nil _ | (apply Imp.pull; focus ((repeat first | exact Del.head _ _ | apply Del.tail); done)) | (apply Imp.row; focus ((repeat first | exact Del.head _ _ | apply Del.tail); done)) | apply Imp.drop)), ?_⟩
    refine TR.n 8 (by kernel_rfl) rfl (N.callF (end_spec a l (by omega) (by omega)) Try.call65 ⟨rfl, trivial⟩ (by (repeat first | exact Pick.nil _ | (apply Pick.cons; focus ((repeat first | exact Del.head _ _ | apply Del.tail); done))))) ?_
    rintro u26 _ ⟨_, ⟨rfl, rfl⟩, rfl⟩
    try simp only [List.cons_append, List.nil_append]
    refine ⟨.inr (by (refine Ent.imp ?_; repeat first | exact Imp.refl _ | exact Imp.nil _ | (apply Imp.pull; focus ((repeat first | exact Del.head _ _ | apply Del.tail); done)) | (apply Imp.row; focus ((repeat first | exact Del.head _ _ | apply Del.tail); done)) | apply Imp.drop)), ?_⟩
    refine TR.p 9 rfl (by kernel_rfl) (DP.minN rfl rfl) ?_
    refine TR.p 10 rfl (by kernel_rfl) (DP.as (by conv => lhs; whnf)) ?_
    refine TR.p 11 rfl (by kernel_rfl) (DP.as (by conv => lhs; whnf)) ?_
    refine TR.done (by kernel_rfl) ?_
    refine TQ.nn ?_
    refine T.seq ?_
    refine T.reg ?_
    refine TO.p (DP.mv (by conv => lhs; whnf)) ?_
    refine TO.p (DP.cv rfl is30 Try.underlying63 (l := 18446744073709551616) rfl (by omega)) ?_
    refine TO.p (DP.mv (by conv => lhs; whnf)) ?_
    refine TO.p (DP.lss rfl rfl) ?_
    refine TO.nil ?_
    refine TQ.nn ?_
    refine T.condD rfl (fun hc1 => ?_) (fun hc1 => ?_)
    · have hnx : sharedN (ss.take (i + 1)) a l = sharedN (ss.take i) a l + (min (s.1 + s.2) (a + l) - max s.1 a) := sharedN_succ hs a l
      refine T.reg ?_
      refine TO.p (DP.mv (by conv => lhs; whnf)) ?_
      refine TO.p (DP.mv (by conv => lhs; whnf)) ?_
      refine TO.p (DP.mv (by conv => lhs; whnf)) ?_
      refine TO.p (DP.cv rfl is30 Try.underlying63 (l := 18446744073709551616) rfl (by omega)) ?_
      refine TO.p (DP.sub rfl rfl (l := 18446744073709551616) rfl (by omega) (by omega)) ?_
      refine TO.p (DP.add rfl rfl (l := 18446744073709551616) rfl (by omega)) ?_
      refine TO.p (DP.as (by conv => lhs; whnf)) ?_
      refine TO.nil ?_
      refine TQ.bn ?_
      refine TQ.nn ?_
      refine T.reg ?_
      refine TO.p (DP.add (b := 1) rfl rfl (l := 9223372036854775808) rfl (by omega)) ?_
      refine TO.p (DP.mv (by conv => lhs; whnf)) ?_
      refine TO.nil ?_
      refine TQ.round (i + 1) rfl ?_ ?_ ?_ ?_
      · (repeat first | exact trivial | refine ⟨rfl, ?_⟩ | refine ⟨by first | (rw [hnx] <;> rfl) | (rw [hnx0] <;> rfl), ?_⟩)
      · omega
      · omega
      · exact .drop (.refl _ _)
    · have hnx0 : sharedN (ss.take (i + 1)) a l = sharedN (ss.take i) a l := by rw [sharedN_succ hs a l]; unfold ovl; omega
      refine T.skip ?_
      refine TQ.bn ?_
      refine TQ.nn ?_
      refine T.reg ?_
      refine TO.p (DP.add (b := 1) rfl rfl (l := 9223372036854775808) rfl (by omega)) ?_
      refine TO.p (DP.mv (by conv => lhs; whnf)) ?_
      refine TO.nil ?_
      refine TQ.round (i + 1) rfl ?_ ?_ ?_ ?_
      · (repeat first | exact trivial | refine ⟨rfl, ?_⟩ | refine ⟨by first | (rw [hnx] <;> rfl) | (rw [hnx0] <;> rfl), ?_⟩)
      · omega
      · omega
      · exact .drop (.refl _ _)
  · obtain rfl : i = ss.length := by omega
    refine T.exit ?_
    refine TQ.ne ?_
    refine TQ.le ?_
    refine TQ.be ?_
    refine TQ.nn ?_
    refine T.seq ?_
    refine T.reg ?_
    refine TO.p (DP.mv (by conv => lhs; whnf)) ?_
    refine TO.p (DP.as (by conv => lhs; whnf)) ?_
    refine TO.nil ?_
    refine TQ.nn ?_
    refine T.ret ?_
    refine TQ.ret (vs := [.int .u64 (sharedN ss a l : Nat)]) (L' := [_, _]) rfl ⟨by rw [sharedN_all]; rfl, rfl⟩ ⟨rfl, rfl⟩ (.drop (.refl _ _))
end Go.Proofs.Ytfgpnipnaaeafaa

