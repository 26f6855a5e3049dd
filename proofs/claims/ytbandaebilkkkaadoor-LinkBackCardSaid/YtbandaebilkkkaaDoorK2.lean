/- Lemmas for the proofs of this seat: no statement of the seat is claimed here. -/
import Derived.Test.YtbandaebilkkkaaDoorK1
set_option linter.all false
namespace Go.Proofs.YtbandaebilkkkaaDoor
open Go Pw
set_option maxRecDepth 20000
set_option maxHeartbeats 4000000
theorem by5 : Tryd.prog.bytesOf 5 = 1 := by kernel_rfl
theorem is5 : (Tryd.prog.underlying 5).isSome = true := by kernel_rfl
theorem is22 : (Tryd.prog.underlying 22).isSome = true := by kernel_rfl
theorem is26 : (Tryd.prog.underlying 26).isSome = true := by kernel_rfl
theorem is31 : (Tryd.prog.underlying 31).isSome = true := by kernel_rfl
theorem pl5 : plainT Tryd.prog 5 = true := by kernel_rfl
theorem sz5 : Tryd.prog.cellsOf 5 = 0 + 1 := by kernel_rfl
theorem zr5 : Tryd.prog.zeroOf 5 = some (.int .u8 0) := by kernel_rfl

def numE : Nat → Nat → List UInt8
  | _, 0 => []
  | x, n + 1 => numE (x / 256) n ++ [UInt8.ofNat x]
theorem numE_len : ∀ (n x : Nat), (numE x n).length = n
  | 0, _ => rfl
  | n + 1, x => by rw [numE, List.length_append, numE_len n]; rfl
theorem numE_front : ∀ (k x : Nat), numE x (k + 1) = UInt8.ofNat (x / 256 ^ k) :: numE x k
  | 0, x => by simp [numE]
  | k + 1, x => by
    rw [numE, numE_front k (x / 256), numE]
    simp only [List.cons_append, List.cons.injEq, and_true]
    rw [Nat.div_div_eq_div_mul, show 256 * 256 ^ k = 256 ^ (k + 1) from by rw [Nat.pow_succ]; omega]
/-- numE's row while it is being filled from its end -/
def fillE (x n i : Nat) : List Value := (List.replicate (n - i) 0 ++ numE x i).map byteV
theorem fillE_zero (x n : Nat) : (List.replicate n [Value.int .u8 0]).flatten = fillE x n 0 := by simp [fillE, numE, byteV]
theorem fillE_full (x n : Nat) : fillE x n n = (numE x n).map byteV := by simp [fillE]
theorem fillE_len (x n i : Nat) (h : i ≤ n) : (fillE x n i).length = n := by simp [fillE, numE_len]; omega
theorem fillE_set (x n i v : Nat) (h : i < n) (hv : v = x / 256 ^ i % 256) : (fillE x n i).set (n - 1 - i) (.int .u8 v) = fillE x n (i + 1) := by
  subst hv
  unfold fillE
  rw [numE_front, show n - i = (n - 1 - i) + 1 by omega, show n - (i + 1) = n - 1 - i by omega, List.replicate_succ', List.append_assoc, List.map_append, List.map_append, List.map_append,
    List.set_append_right _ _ (by simp)]
  simp [byteV]
def valE (s : List UInt8) : Nat := s.foldl (fun x c => x * 2 ^ 8 % 18446744073709551616 ||| c.toNat) 0
theorem valE_step (a c : Nat) (hc : c < 256) : (a * 2 ^ 8 % 18446744073709551616 ||| c) < 18446744073709551616 :=
  Nat.or_lt_two_pow (n := 64) (Nat.mod_lt _ (by decide)) (by omega)
theorem valE_take {s : List UInt8} {i : Nat} {c : UInt8} (h : s[i]? = some c) : valE (s.take (i + 1)) = (valE (s.take i) * 2 ^ 8 % 18446744073709551616 ||| c.toNat) := by
  unfold valE
  rw [List.take_add_one, h, List.foldl_append]; rfl
theorem valE_lt (s : List UInt8) : valE s < 18446744073709551616 := by
  unfold valE
  rw [← List.foldr_reverse]
  cases s.reverse with
  | nil => decide
  | cons c l => exact valE_step _ _ c.toNat_lt
structure Fr where
  d : List UInt8
  s : List UInt8
  t : Nat
  x : List UInt8
deriving DecidableEq
def frV (f : Fr) : List Value := [str f.d, str f.s, .int .u16 f.t, str f.x]
structure Ar where
  op : Nat
  f : List UInt8
  fa : Nat
  t : List UInt8
  ta : Nat
deriving DecidableEq
def arV (a : Ar) : List Value := [.int .u16 a.op, str a.f, .int .u32 a.fa, str a.t, .int .u32 a.ta]
def fr0 : Fr := ⟨[], [], 0, []⟩
def ar0 : Ar := ⟨0, [], 0, [], 0⟩
def encE (f : Fr) : List UInt8 × Nat :=
  if f.d.length ≠ 6 ∨ f.s.length ≠ 6 ∨ f.t < 1536 then ([], 2) else if 1500 < f.x.length then ([], 4)
  else (f.d ++ f.s ++ numE f.t 2 ++ f.x ++ List.replicate (46 - f.x.length) 0, 0)
def decE (s : List UInt8) : Fr × Nat :=
  if s.length < 14 then (fr0, 7) else
  let t := valE ((s.take 14).drop 12) % 65536
  if t < 1536 then (fr0, 170) else if 1500 < s.length - 14 then (fr0, 4) else (⟨s.take 6, (s.take 12).drop 6, t, s.drop 14⟩, 0)
def mayE (a : Ar) : Bool := decide (a.op = 1 ∨ a.op = 2) && decide (a.f.length = 6) && decide (a.t.length = 6)
def hdE : List UInt8 := [0, 1, 8, 0, 6, 4]
def encA (a : Ar) : List UInt8 × Nat :=
  if mayE a then (hdE ++ numE a.op 2 ++ a.f ++ numE a.fa 4 ++ a.t ++ numE a.ta 4, 0) else ([], 2)
def arOf (s : List UInt8) : Ar := ⟨valE ((s.take 8).drop 6) % 65536, (s.take 14).drop 8, valE ((s.take 18).drop 14) % 4294967296, (s.take 24).drop 18, valE ((s.take 28).drop 24) % 4294967296⟩
def decA (s : List UInt8) : Ar × Nat :=
  if s.length < 28 then (ar0, 7) else if s.take 6 = hdE ∧ mayE (arOf s) = true then (arOf s, 0) else (ar0, 8)
def aloneE (m : List UInt8) : Bool := decide (m.length = 6) && decide ((m.headD 0).toNat &&& 1 = 0) && decide (m ≠ List.replicate 6 0)
def aloneA (a : Nat) : Bool := decide (1 ≤ a / 2 ^ 24) && decide (a / 2 ^ 24 < 224) && decide (a / 2 ^ 24 ≠ 127)
theorem number_spec (x n : Nat) (hx : x < 18446744073709551616) (hn : n ≤ 8) :
    Sat Tryd.prog 39 [.int .u64 x, .int .i64 n] [] (fun u L' => u = str (numE x n) ∧ L' = []) := by
  refine Sat.enter Tryd.func39 rfl Tryd.ntmps39 rfl (fun c R => ?_)
  try simp only [List.cons_append, List.nil_append]
  refine T.seq ?_
  refine T.reg ?_
  refine TO.p (DP.as (by conv => lhs; whnf)) ?_
  refine TO.nil ?_
  refine TQ.nn ?_
  refine T.seq ?_
  refine T.reg ?_
  refine TO.p (DP.mv (by conv => lhs; whnf)) ?_
  refine TO.n (N.mk rfl rfl Tryd.underlying60 sz5 by5 zr5 rfl rfl (by omega)) ?_
  rintro _ _ ⟨b8, rfl, rfl⟩
  refine TO.p (DP.as (by conv => lhs; whnf)) ?_
  refine TO.nil ?_
  refine TQ.nn ?_
  refine T.seq ?_
  refine T.seq ?_
  rw [fillE_zero x]
  refine T.reg ?_
  refine TO.p (DP.mv (by conv => lhs; whnf)) ?_
  refine TO.p (DP.lenS rfl Tryd.underlying60) ?_
  refine TO.p (DP.mv (by conv => lhs; whnf)) ?_
  refine TO.nil ?_
  refine TQ.nn ?_
  refine T.block ?_
  refine T.loop (S := Nat) 0 (fun i => [(0, .int .u64 x), (1, .int .i64 (n : Nat)), (5, .slice (some ⟨b8, 0, none⟩) n n), (10, .int .i64 (n : Nat)), (11, .int .i64 (i : Nat))]) (fun i => row 5 b8 (fillE x n i) :: R) (fun i => i ≤ n) (fun i => n - i) ?_ ?_ ?_ ?_
  · (repeat first | exact trivial | refine ⟨rfl, ?_⟩)
  · exact Nat.zero_le _
  · exact Ent.refl _ _
  rintro i g hI
  refine T.seq ?_
  refine T.reg ?_
  refine TO.p ((by first | exact DP.lss rfl rfl | exact DP.lssI rfl rfl)) ?_
  refine TO.nil ?_
  refine TQ.nn ?_
  refine T.seq ?_
  refine T.condD rfl (fun hc0 => ?_) (fun hc0 => ?_)
  · refine T.skip ?_
    refine TQ.nn ?_
    refine T.seq ?_
    refine T.block ?_
    refine T.seq ?_
    refine T.reg ?_
    refine TO.p (DP.mv (by conv => lhs; whnf)) ?_
    refine TO.p (DP.as (by conv => lhs; whnf)) ?_
    refine TO.nil ?_
    refine TQ.nn ?_
    refine T.reg ?_
    refine TO.p (DP.mv (by conv => lhs; whnf)) ?_
    refine TO.p (DP.mv (by conv => lhs; whnf)) ?_
    refine TO.p ((by first | exact DP.sub (b := 1) rfl rfl (l := 9223372036854775808) rfl (by omega) (by omega) | exact DP.subI rfl rfl (by simp [IntKind.fits, IntKind.lim, IntKind.signed, IntKind.bits]; omega) | exact DP.subX rfl rfl)) ?_
    refine TO.p (DP.mv (by conv => lhs; whnf)) ?_
    refine TO.p ((by first | exact DP.sub rfl rfl (l := 9223372036854775808) rfl (by omega) (by omega) | exact DP.subI rfl rfl (by simp [IntKind.fits, IntKind.lim, IntKind.signed, IntKind.bits]; omega) | exact DP.subX rfl rfl)) ?_
    refine TO.p (DP.mv (by conv => lhs; whnf)) ?_
    refine TO.p (DP.mv (by conv => lhs; whnf)) ?_
    refine TO.p (DP.mul (a := 8) rfl rfl (l := 9223372036854775808) rfl (by omega)) ?_
    refine TO.p (DP.shr (b := 8 * i) rfl rfl (l := 18446744073709551616) rfl (by omega)) ?_
    refine TO.p ((by first | exact DP.cv rfl is31 Tryd.underlying5 (l := 256) rfl (by omega) | exact DP.cvW rfl is31 Tryd.underlying5 rfl (l := 256) rfl | exact DP.cvX rfl is31 Tryd.underlying5)) ?_
    refine TO.p (DP.to (v' := .pointer (some ⟨b8, n - 1 - i, none⟩)) (DP.ias rfl rfl Tryd.underlying60 sz5 (by omega)) (by simp)) ?_
    refine TO.n0 (N.st (et := 5) rfl (by conv => lhs; whnf) sz5 (by (repeat first | exact Put.head _ _ _ | apply Put.tail)) (by rw [fillE_len _ _ _ hI]; omega) rfl) ?_
    rintro _ _ ⟨rfl, rfl⟩
    refine TO.nil ?_
    refine TQ.bn ?_
    refine TQ.nn ?_
    refine T.reg ?_
    refine TO.p ((by first | exact DP.add (b := 1) rfl rfl (l := 9223372036854775808) rfl (by omega) | exact DP.addX rfl rfl)) ?_
    refine TO.p (DP.mv (by conv => lhs; whnf)) ?_
    refine TO.nil ?_
    refine TQ.round (i + 1) rfl ?_ ?_ ?_ ?_
    · (repeat first | exact trivial | refine ⟨rfl, ?_⟩)
    · omega
    · omega
    · (rw [← fillE_set x n i (x / 2 ^ (8 * i) % 256) (by omega) (by rw [Nat.pow_mul])]; exact Ent.refl _ _)
  · obtain rfl : i = n := by omega
    refine T.exit ?_
    refine TQ.ne ?_
    refine TQ.le ?_
    refine TQ.be ?_
    refine TQ.nn ?_
    refine T.seq ?_
    refine T.reg ?_
    refine TO.p (DP.mv (by conv => lhs; whnf)) ?_
    refine TO.d (D.cbs (l := numE x i) (A := row 5 b8 _) rfl Tryd.underlying60 Tryd.underlying9 Tryd.underlying5 (numE_len _ _) (by (repeat first | exact LMem.head _ _ | apply LMem.tail)) (ReadsN.row (fun j v hv => by rw [Nat.zero_add, fillE_full]; exact hv))) ?_
    refine TO.p (DP.as (by conv => lhs; whnf)) ?_
    refine TO.nil ?_
    refine TQ.nn ?_
    refine T.ret ?_
    refine TQ.ret (vs := [str (numE x i)]) (L' := []) rfl ⟨rfl, rfl⟩ ⟨rfl, rfl⟩ (by (refine Ent.imp ?_; repeat first | exact Imp.refl _ | exact Imp.nil _ | (apply Imp.pull; focus ((repeat first | exact Del.head _ _ | apply Del.tail); done)) | (apply Imp.row; focus ((repeat first | exact Del.head _ _ | apply Del.tail); done)) | apply Imp.drop))

theorem rnum_spec (x n : Nat) (hx : x < 18446744073709551616) (hn : n ≤ 8) :
    Sat Tryd.prog 41 [.int .u64 x, .int .i64 n] [] (fun u L' => u = str (numE x n) ∧ L' = []) := by
  refine Sat.enter Tryd.func41 rfl Tryd.ntmps41 rfl (fun c R => ?_)
  try simp only [List.cons_append, List.nil_append]
  refine T.seq ?_
  refine T.reg ?_
  refine TO.p (DP.as (by conv => lhs; whnf)) ?_
  refine TO.nil ?_
  refine TQ.nn ?_
  refine T.seq ?_
  refine T.reg ?_
  refine TO.p (DP.mv (by conv => lhs; whnf)) ?_
  refine TO.n (N.mk rfl rfl Tryd.underlying60 sz5 by5 zr5 rfl rfl (by omega)) ?_
  rintro _ _ ⟨b8, rfl, rfl⟩
  refine TO.p (DP.as (by conv => lhs; whnf)) ?_
  refine TO.nil ?_
  refine TQ.nn ?_
  refine T.seq ?_
  refine T.seq ?_
  rw [fillE_zero x]
  refine T.reg ?_
  refine TO.p (DP.mv (by conv => lhs; whnf)) ?_
  refine TO.p (DP.subI rfl rfl (by simp [IntKind.fits, IntKind.lim, IntKind.signed, IntKind.bits]; omega)) ?_
  refine TO.p (DP.as (by conv => lhs; whnf)) ?_
  refine TO.nil ?_
  refine TQ.nn ?_
  refine T.block ?_
  refine T.loop (S := Nat) 0 (fun i => [(0, .int .u64 (x / 256 ^ i : Nat)), (5, .slice (some ⟨b8, 0, none⟩) n n), (6, .int .i64 ((n : Int) - 1 - i))]) (fun i => row 5 b8 (fillE x n i) :: R) (fun i => i ≤ n) (fun i => n - i) ?_ ?_ ?_ ?_
  · (refine ⟨show Value.int .u64 ((x : Nat) : Int) = Value.int .u64 ((x / 256 ^ 0 : Nat) : Int) by rw [Nat.pow_zero, Nat.div_one], rfl, show Value.int .i64 ((n : Int) - 1) = Value.int .i64 ((n : Int) - 1 - ((0 : Nat) : Int)) by simp, trivial⟩)
  · exact Nat.zero_le _
  · exact Ent.refl _ _
  rintro i g hI
  refine T.seq ?_
  refine T.seq ?_
  refine T.reg ?_
  refine TO.p (DP.mv (by conv => lhs; whnf)) ?_
  refine TO.p (DP.geqI rfl rfl) ?_
  refine TO.nil ?_
  refine TQ.nn ?_
  refine T.condD rfl (fun hc0 => ?_) (fun hc0 => ?_)
  · have hxi : x / 256 ^ i < 18446744073709551616 := Nat.lt_of_le_of_lt (Nat.div_le_self _ _) hx
    have hidx : ((n : Int) - 1 - i) = ((n - 1 - i : Nat) : Int) := by omega
    refine T.skip ?_
    refine TQ.nn ?_
    refine T.seq ?_
    refine T.block ?_
    refine T.seq ?_
    refine T.reg ?_
    refine TO.p (DP.mv (by conv => lhs; whnf)) ?_
    refine TO.p (DP.to (v' := .int .i64 ((n - 1 - i : Nat) : Int)) (DP.mv (by conv => lhs; whnf)) (by rw [hidx])) ?_
    refine TO.p (DP.mv (by conv => lhs; whnf)) ?_
    refine TO.p ((by first | exact DP.cv rfl is31 Tryd.underlying5 (l := 256) rfl (by omega) | exact DP.cvW rfl is31 Tryd.underlying5 rfl (l := 256) rfl | exact DP.cvX rfl is31 Tryd.underlying5)) ?_
    refine TO.p (DP.to (v' := .pointer (some ⟨b8, n - 1 - i, none⟩)) (DP.ias rfl rfl Tryd.underlying60 sz5 (by omega)) (by simp)) ?_
    refine TO.n0 (N.st (et := 5) rfl (by conv => lhs; whnf) sz5 (by (repeat first | exact Put.head _ _ _ | apply Put.tail)) (by rw [fillE_len _ _ _ hI]; omega) rfl) ?_
    rintro _ _ ⟨rfl, rfl⟩
    refine TO.nil ?_
    refine TQ.nn ?_
    refine T.reg ?_
    refine TO.p (DP.mv (by conv => lhs; whnf)) ?_
    refine TO.p (DP.shr (b := 8) rfl rfl (l := 18446744073709551616) rfl (by omega)) ?_
    refine TO.p (DP.as (by conv => lhs; whnf)) ?_
    refine TO.nil ?_
    refine TQ.bn ?_
    refine TQ.nn ?_
    refine T.reg ?_
    refine TO.p (DP.mv (by conv => lhs; whnf)) ?_
    refine TO.p (DP.subI rfl rfl (by simp [IntKind.fits, IntKind.lim, IntKind.signed, IntKind.bits]; omega)) ?_
    refine TO.p (DP.as (by conv => lhs; whnf)) ?_
    refine TO.nil ?_
    refine TQ.round (i + 1) rfl ?_ ?_ ?_ ?_
    · (refine ⟨show Value.int .u64 ((x / 256 ^ i / 2 ^ 8 : Nat) : Int) = Value.int .u64 ((x / 256 ^ (i + 1) : Nat) : Int) by rw [show 256 ^ (i + 1) = 256 ^ i * 2 ^ 8 from rfl, Nat.div_div_eq_div_mul], rfl, show Value.int .i64 ((n : Int) - 1 - (i : Int) - 1) = Value.int .i64 ((n : Int) - 1 - ((i + 1 : Nat) : Int)) by congr 1; omega, trivial⟩)
    · omega
    · omega
    · (rw [← fillE_set x n i (x / 256 ^ i % 256) (by omega) rfl]; exact Ent.refl _ _)
  · obtain rfl : i = n := by omega
    refine T.exit ?_
    refine TQ.ne ?_
    refine TQ.le ?_
    refine TQ.be ?_
    refine TQ.nn ?_
    refine T.seq ?_
    refine T.reg ?_
    refine TO.p (DP.mv (by conv => lhs; whnf)) ?_
    refine TO.d (D.cbs (l := numE x i) (A := row 5 b8 _) rfl Tryd.underlying60 Tryd.underlying9 Tryd.underlying5 (numE_len _ _) (by (repeat first | exact LMem.head _ _ | apply LMem.tail)) (ReadsN.row (fun j v hv => by rw [Nat.zero_add, fillE_full]; exact hv))) ?_
    refine TO.p (DP.as (by conv => lhs; whnf)) ?_
    refine TO.nil ?_
    refine TQ.nn ?_
    refine T.ret ?_
    refine TQ.ret (vs := [str (numE x i)]) (L' := []) rfl ⟨rfl, rfl⟩ ⟨rfl, rfl⟩ (by (refine Ent.imp ?_; repeat first | exact Imp.refl _ | exact Imp.nil _ | (apply Imp.pull; focus ((repeat first | exact Del.head _ _ | apply Del.tail); done)) | (apply Imp.row; focus ((repeat first | exact Del.head _ _ | apply Del.tail); done)) | apply Imp.drop))

theorem value_spec (s : List UInt8) (hs : s.length ≤ 8) :
    Sat Tryd.prog 44 [str s] [] (fun u L' => u = .int .u64 (valE s : Nat) ∧ L' = []) := by
  refine Sat.enter Tryd.func44 rfl Tryd.ntmps44 rfl (fun c R => ?_)
  try simp only [List.cons_append, List.nil_append]
  refine T.seq ?_
  refine T.reg ?_
  refine TO.p (DP.as (by conv => lhs; whnf)) ?_
  refine TO.nil ?_
  refine TQ.nn ?_
  refine T.seq ?_
  refine T.seq ?_
  refine T.reg ?_
  refine TO.p (DP.mv (by conv => lhs; whnf)) ?_
  refine TO.n (N.csb rfl Tryd.underlying9 Tryd.underlying60 Tryd.underlying5) ?_
  rintro _ _ ⟨b6, r6, rfl, rfl⟩
  refine TO.p (DP.lenS rfl Tryd.underlying60) ?_
  refine TO.p (DP.mv (by conv => lhs; whnf)) ?_
  refine TO.nil ?_
  refine TQ.nn ?_
  refine T.block ?_
  refine T.loop (S := Nat) 0 (fun i => [(2, .int .u64 (valE (s.take i) : Nat)), (6, .slice (some ⟨b6, 0, none⟩) s.length (s.length + r6.length)), (7, .int .i64 (s.length : Nat)), (8, .int .i64 (i : Nat))]) (fun i => row 5 b6 (s.map byteV ++ r6) :: R) (fun i => i ≤ s.length) (fun i => s.length - i) ?_ ?_ ?_ ?_
  · (repeat first | exact trivial | refine ⟨rfl, ?_⟩)
  · exact Nat.zero_le _
  · exact Ent.refl _ _
  rintro i g hI
  refine T.seq ?_
  refine T.reg ?_
  refine TO.p ((by first | exact DP.lss rfl rfl | exact DP.lssI rfl rfl)) ?_
  refine TO.nil ?_
  refine TQ.nn ?_
  refine T.seq ?_
  refine T.condD rfl (fun hc0 => ?_) (fun hc0 => ?_)
  · obtain ⟨c8, hc⟩ := get_some (l := s) (i := i) (by omega)
    have hv := valE_lt (s.take i)
    have hc8 := c8.toNat_lt
    refine T.skip ?_
    refine TQ.nn ?_
    refine T.seq ?_
    refine T.block ?_
    refine T.seq ?_
    refine T.reg ?_
    refine TO.p (DP.to (v' := .pointer (some ⟨b6, i, none⟩)) (DP.ias rfl rfl Tryd.underlying60 sz5 (by omega)) (by simp)) ?_
    refine TO.d (D.ldR (v := byteV c8) rfl pl5 (by (repeat first | exact LMem.head _ _ | apply LMem.tail)) (by rw [List.getElem?_append_left (by simpa using hc0), List.getElem?_map, hc]; rfl)) ?_
    refine TO.p (DP.as (by conv => lhs; whnf)) ?_
    refine TO.nil ?_
    refine TQ.nn ?_
    refine T.reg ?_
    refine TO.p (DP.mv (by conv => lhs; whnf)) ?_
    refine TO.p (DP.shl (b := 8) rfl rfl rfl (l := 18446744073709551616) rfl) ?_
    refine TO.p (DP.mv (by conv => lhs; whnf)) ?_
    refine TO.p (DP.cv (a := c8.toNat) rfl is5 Tryd.underlying31 (l := 18446744073709551616) rfl (by omega)) ?_
    refine TO.p (DP.bor rfl rfl (l := 18446744073709551616) rfl (Nat.mod_lt _ (by decide)) (by omega)) ?_
    refine TO.p (DP.as (by conv => lhs; whnf)) ?_
    refine TO.nil ?_
    refine TQ.bn ?_
    refine TQ.nn ?_
    refine T.reg ?_
    refine TO.p ((by first | exact DP.add (b := 1) rfl rfl (l := 9223372036854775808) rfl (by omega) | exact DP.addX rfl rfl)) ?_
    refine TO.p (DP.mv (by conv => lhs; whnf)) ?_
    refine TO.nil ?_
    refine TQ.round (i + 1) rfl ?_ ?_ ?_ ?_
    · (refine ⟨by rw [valE_take hc]; rfl, rfl, rfl, rfl, trivial⟩)
    · omega
    · omega
    · exact Ent.refl _ _
  · obtain rfl : i = s.length := by omega
    rw [List.take_length]
    refine T.exit ?_
    refine TQ.ne ?_
    refine TQ.le ?_
    refine TQ.be ?_
    refine TQ.nn ?_
    refine T.seq ?_
    refine T.reg ?_
    refine TO.p (DP.mv (by conv => lhs; whnf)) ?_
    refine TO.p (DP.as (by conv => lhs; whnf)) ?_
    refine TO.nil ?_
    refine TQ.nn ?_
    refine T.ret ?_
    refine TQ.ret (vs := [.int .u64 (valE s : Nat)]) (L' := []) rfl ⟨rfl, rfl⟩ ⟨rfl, rfl⟩ (by (refine Ent.imp ?_; repeat first | exact Imp.refl _ | exact Imp.nil _ | (apply Imp.pull; focus ((repeat first | exact Del.head _ _ | apply Del.tail); done)) | (apply Imp.row; focus ((repeat first | exact Del.head _ _ | apply Del.tail); done)) | apply Imp.drop))

theorem rvalue_spec (s : List UInt8) (hs : s.length ≤ 8) :
    Sat Tryd.prog 45 [str s] [] (fun u L' => u = .int .u64 (valE s : Nat) ∧ L' = []) := by
  refine Sat.enter Tryd.func45 rfl Tryd.ntmps45 rfl (fun c R => ?_)
  try simp only [List.cons_append, List.nil_append]
  refine T.seq ?_
  refine T.reg ?_
  refine TO.p (DP.as (by conv => lhs; whnf)) ?_
  refine TO.nil ?_
  refine TQ.nn ?_
  refine T.seq ?_
  refine T.reg ?_
  refine TO.p (DP.as (by conv => lhs; whnf)) ?_
  refine TO.nil ?_
  refine TQ.nn ?_
  refine T.seq ?_
  refine T.seq ?_
  refine T.reg ?_
  refine TO.p (DP.as (by conv => lhs; whnf)) ?_
  refine TO.nil ?_
  refine TQ.nn ?_
  refine T.block ?_
  refine T.loop (S := Nat) 0 (fun i => [(0, str s), (3, .int .u64 (valE (s.take i) : Nat)), (4, .int .i64 (i : Nat))]) (fun i => R) (fun i => i ≤ s.length) (fun i => s.length - i) ?_ ?_ ?_ ?_
  · (repeat first | exact trivial | refine ⟨rfl, ?_⟩)
  · exact Nat.zero_le _
  · exact Ent.refl _ _
  rintro i g hI
  refine T.seq ?_
  refine T.seq ?_
  refine T.reg ?_
  refine TO.p (DP.mv (by conv => lhs; whnf)) ?_
  refine TO.p (DP.mv (by conv => lhs; whnf)) ?_
  refine TO.p (DP.lenT rfl Tryd.underlying9) ?_
  refine TO.p ((by first | exact DP.lss rfl rfl | exact DP.lssI rfl rfl)) ?_
  refine TO.nil ?_
  refine TQ.nn ?_
  refine T.condD rfl (fun hc0 => ?_) (fun hc0 => ?_)
  · obtain ⟨c8, hc⟩ := get_some (l := s) (i := i) (by omega)
    have hv := valE_lt (s.take i)
    have hc8 := c8.toNat_lt
    refine T.skip ?_
    refine TQ.nn ?_
    refine T.seq ?_
    refine T.block ?_
    refine T.reg ?_
    refine TO.p (DP.mv (by conv => lhs; whnf)) ?_
    refine TO.p (DP.shl (b := 8) rfl rfl rfl (l := 18446744073709551616) rfl) ?_
    refine TO.p (DP.mv (by conv => lhs; whnf)) ?_
    refine TO.p (DP.mv (by conv => lhs; whnf)) ?_
    refine TO.p (DP.ixT rfl rfl Tryd.underlying9 hc) ?_
    refine TO.p (DP.cv (a := c8.toNat) rfl is5 Tryd.underlying31 (l := 18446744073709551616) rfl (by omega)) ?_
    refine TO.p (DP.bor rfl rfl (l := 18446744073709551616) rfl (Nat.mod_lt _ (by decide)) (by omega)) ?_
    refine TO.p (DP.as (by conv => lhs; whnf)) ?_
    refine TO.nil ?_
    refine TQ.bn ?_
    refine TQ.nn ?_
    refine T.reg ?_
    refine TO.p (DP.mv (by conv => lhs; whnf)) ?_
    refine TO.p ((by first | exact DP.add (b := 1) rfl rfl (l := 9223372036854775808) rfl (by omega) | exact DP.addX rfl rfl)) ?_
    refine TO.p (DP.as (by conv => lhs; whnf)) ?_
    refine TO.nil ?_
    refine TQ.round (i + 1) rfl ?_ ?_ ?_ ?_
    · (refine ⟨rfl, by rw [valE_take hc]; rfl, rfl, trivial⟩)
    · omega
    · omega
    · exact Ent.refl _ _
  · obtain rfl : i = s.length := by omega
    rw [List.take_length]
    refine T.exit ?_
    refine TQ.ne ?_
    refine TQ.le ?_
    refine TQ.be ?_
    refine TQ.nn ?_
    refine T.seq ?_
    refine T.reg ?_
    refine TO.p (DP.mv (by conv => lhs; whnf)) ?_
    refine TO.p (DP.as (by conv => lhs; whnf)) ?_
    refine TO.nil ?_
    refine TQ.nn ?_
    refine T.ret ?_
    refine TQ.ret (vs := [.int .u64 (valE s : Nat)]) (L' := []) rfl ⟨rfl, rfl⟩ ⟨rfl, rfl⟩ (by (refine Ent.imp ?_; repeat first | exact Imp.refl _ | exact Imp.nil _ | (apply Imp.pull; focus ((repeat first | exact Del.head _ _ | apply Del.tail); done)) | (apply Imp.row; focus ((repeat first | exact Del.head _ _ | apply Del.tail); done)) | apply Imp.drop))
end Go.Proofs.YtbandaebilkkkaaDoor
