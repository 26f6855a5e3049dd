/- Lemmas for the proofs of this seat: no statement of the seat is claimed here. -/
import Derived.Test.YthbpjjlinebooaaDoorKj
import Derived.Test.YthbpjjlinebooaaDoorKc
set_option linter.all false

namespace Go.Proofs.YthbpjjlinebooaaDoor
open Go Pw
set_option maxRecDepth 20000
set_option maxHeartbeats 4000000
set_option maxHeartbeats 1000000

class Lt64 (x : Nat) : Prop where h : x < 18446744073709551616
instance {x : Nat} : Lt64 (x % 18446744073709551616) := ⟨Nat.mod_lt _ (by decide)⟩
instance {x y : Nat} [h1 : Lt64 x] [h2 : Lt64 y] : Lt64 (x ||| y) := ⟨Nat.or_lt_two_pow (n := 64) h1.h h2.h⟩
instance {x y : Nat} [h1 : Lt64 x] : Lt64 (x &&& y) := ⟨Nat.lt_of_le_of_lt Nat.and_le_left h1.h⟩
instance {x y : Nat} [h1 : Lt64 x] : Lt64 (x / y) := ⟨Nat.lt_of_le_of_lt (Nat.div_le_self _ _) h1.h⟩
class B64 (l : List Nat) : Prop where h : ∀ j, gt l j < 18446744073709551616
instance {l : List Nat} {j : Nat} [h : B64 l] : Lt64 (gt l j) := ⟨h.h j⟩
instance {l : List Nat} {j x : Nat} [h : B64 l] [hx : Lt64 x] : B64 (l.set j x) := ⟨fun i => by
  have h1 := h.h i
  unfold gt at *
  rw [List.getD_eq_getElem?_getD] at *
  rw [List.getElem?_set]
  split
  · split
    · exact hx.h
    · decide
  · exact h1⟩
instance {n : Nat} : Ln (List.replicate n (0 : Nat)) n := ⟨List.length_replicate⟩
instance {n : Nat} : B64 (List.replicate n 0) := ⟨fun j => by
  unfold gt
  rw [List.getD_eq_getElem?_getD, List.getElem?_replicate]
  split <;> decide⟩
theorem and1_lt (x : Nat) : x &&& 1 < 2 := Nat.lt_of_le_of_lt Nat.and_le_right (by decide)
/-- Digits of twelve bits, read bit by bit. -/
def readS (s : List UInt8) : Nat → List Nat
  | 0 => List.replicate 11 0
  | i + 1 => (readS s i).set (i / 12) (gt (readS s i) (i / 12) ||| ((gt s (i / 8)).toNat / 2 ^ (i % 8) &&& 1) * 2 ^ (i % 12) % 18446744073709551616)
instance instLnRead {s : List UInt8} {i : Nat} : Ln (readS s i) 11 := by
  induction i with
  | zero => rw [readS]; infer_instance
  | succ i ih => rw [readS]; infer_instance
instance instB64Read {s : List UInt8} {i : Nat} : B64 (readS s i) := by
  induction i with
  | zero => rw [readS]; infer_instance
  | succ i ih => rw [readS]; infer_instance
def carI (n : List Nat) : Nat → List Nat × Nat
  | 0 => (n, 0)
  | i + 1 => ((carI n i).1.set i ((gt (carI n i).1 i + (carI n i).2) % 18446744073709551616 &&& 4095), (gt (carI n i).1 i + (carI n i).2) % 18446744073709551616 / 2 ^ 12)
def carR (n : List Nat) : List Nat :=
  let m := (carI n 11).1.set 10 (gt (carI n 11).1 10 &&& 1023)
  m.set 0 ((gt m 0 + 5 * ((carI n 11).2 * 2 ^ 2 % 18446744073709551616 ||| gt (carI n 11).1 10 / 2 ^ 10) % 18446744073709551616) % 18446744073709551616)
def carS (n : List Nat) : Nat → List Nat
  | 0 => n
  | i + 1 => carR (carS n i)
def timK (a b n : List Nat) (i : Nat) : Nat → List Nat
  | 0 => n
  | k + 1 => if 11 ≤ i + k then (timK a b n i k).set (i + k - 11) ((gt (timK a b n i k) (i + k - 11) + 20 * (gt a i * gt b k % 18446744073709551616) % 18446744073709551616) % 18446744073709551616) else (timK a b n i k).set (i + k) ((gt (timK a b n i k) (i + k) + gt a i * gt b k % 18446744073709551616) % 18446744073709551616)
def timI (a b : List Nat) : Nat → List Nat
  | 0 => List.replicate 11 0
  | i + 1 => timK a b (timI a b i) i 11
instance instLnCarI {n : List Nat} {i k : Nat} [h : Ln n k] : Ln (carI n i).1 k := by
  induction i with
  | zero => exact h
  | succ i ih => rw [carI]; infer_instance
instance instB64CarI {n : List Nat} {i : Nat} [h : B64 n] : B64 (carI n i).1 := by
  induction i with
  | zero => exact h
  | succ i ih => rw [carI]; infer_instance
instance instLtCarI {n : List Nat} {i : Nat} [h : B64 n] : Lt64 (carI n i).2 := by
  cases i with
  | zero => exact ⟨(by decide : (0 : Nat) < 18446744073709551616)⟩
  | succ i => rw [carI]; infer_instance
instance {n : List Nat} {k : Nat} [h : Ln n k] : Ln (carR n) k := by unfold carR; infer_instance
instance {n : List Nat} [h : B64 n] : B64 (carR n) := by unfold carR; infer_instance
instance instLnCarS {n : List Nat} {i k : Nat} [h : Ln n k] : Ln (carS n i) k := by
  induction i with
  | zero => exact h
  | succ i ih => rw [carS]; infer_instance
instance instB64CarS {n : List Nat} {i : Nat} [h : B64 n] : B64 (carS n i) := by
  induction i with
  | zero => exact h
  | succ i ih => rw [carS]; infer_instance
instance instLnTimK {a b n : List Nat} {i k m : Nat} [h : Ln n m] : Ln (timK a b n i k) m := by
  induction k with
  | zero => exact h
  | succ k ih => rw [timK]; split <;> infer_instance
instance instB64TimK {a b n : List Nat} {i k : Nat} [h : B64 n] : B64 (timK a b n i k) := by
  induction k with
  | zero => exact h
  | succ k ih => rw [timK]; split <;> infer_instance
instance instLnTimI {a b : List Nat} {i : Nat} : Ln (timI a b i) 11 := by
  induction i with
  | zero => rw [timI]; infer_instance
  | succ i ih => rw [timI]; infer_instance
instance instB64TimI {a b : List Nat} {i : Nat} : B64 (timI a b i) := by
  induction i with
  | zero => rw [timI]; infer_instance
  | succ i ih => rw [timI]; infer_instance
def numA (n : List Nat) : Value := .agg (n.map vU64).toArray
theorem read_0 {s : List UInt8} : [vU64 0, vU64 0, vU64 0, vU64 0, vU64 0, vU64 0, vU64 0, vU64 0, vU64 0, vU64 0, vU64 0] = (readS s 0).map vU64 := rfl
theorem tim_0 {a b : List Nat} : [vU64 0, vU64 0, vU64 0, vU64 0, vU64 0, vU64 0, vU64 0, vU64 0, vU64 0, vU64 0, vU64 0] = (timI a b 0).map vU64 := rfl
attribute [local irreducible] gt readS carI carR carS timK timI
theorem read_spec (s : List UInt8) (hs : s.length ≤ 17) :
    Sat Tryd.prog 85 [str s] [] (fun u L' => u = numA (readS s (min (8 * s.length) 132)) ∧ L' = []) := by
  all_goals
    refine Sat.enter Tryd.func85 rfl Tryd.ntmps85 rfl (fun c R => ?_)
    try simp only [List.cons_append, List.nil_append]
    repeat' (first
      | exact Nat.lt_of_le_of_lt (Nat.div_le_self _ _) (UInt8.toNat_lt _)
      | exact ((List.length_map ..).trans Ln.h).trans ((List.length_map ..).trans Ln.h).symm
      | exact lt_ln (by omega)
      | exact Lt64.h
      | exact (List.length_map ..).trans Ln.h
      | exact ((List.length_map ..).trans Ln.h).symm
      | exact trivial
      | (refine T.atB 0 ?_; refine T.lpa 0 [(0, _), (2, _), (3, _)] ((0, [.int .u64 0, .int .u64 0, .int .u64 0, .int .u64 0, .int .u64 0, .int .u64 0, .int .u64 0, .int .u64 0, .int .u64 0, .int .u64 0, .int .u64 0]) : Nat × List Value) (fun s => [(4, .int .i64 (s.1 : Nat))]) (fun s => [row 143 b s.2]) (fun z => z.1 ≤ min (8 * s.length) 132 ∧ z.2 = (readS s z.1).map vU64) (fun s => 132 - s.1) ⟨Nat.zero_le _, read_0⟩ ?_; rintro ⟨i, ys⟩ g ⟨hI, hy⟩; dsimp only at hI hy ⊢; subst hy; have hb1 := and1_lt ((gt s (i / 8)).toNat / 2 ^ (i % 8)); simp only [List.cons_append, List.nil_append, appR])
      | (refine TQ.atL ?_; refine TQ.rd (i + 1, _) rfl ⟨rfl, rfl, rfl, rfl, trivial⟩ ⟨by dsimp only; omega, ?_⟩ (by dsimp only; omega) (Ent.imp (by repeat first | exact Imp.refl _ | (apply Imp.pull; focus ((repeat first | exact Del.head _ _ | apply Del.tail); done)) | apply Imp.drop)); dsimp only; rw [readS])
      | exact Fini.mk ⟨by rw [show min (8 * s.length) 132 = i by omega]; rfl, rfl⟩
      | refine T.pl 5 [22] (.p 0 (.p 1 (.p 2 (.p 3 (.p 4 (.p 6 (.p 7 (.p 8 (.p 9 (.p 10 (.p 11 (.p 12 (.p 13 (.p 14 (.p 15 (.p 16 (.p 17 (.p 18 (.p 19 (.d 5 (.p 20 (.p 21 (.n 22 .fin))))))))))))))))))))))) ?_
      | refine And.intro (fun hc => ?_) (fun hc => ?_)
      | refine And.intro ?_ ?_
      | intro b
      | refine stp ?_
      | refine TQ.finC ?_
      | refine TQ.finC2 ?_
      | refine TQ.finC3 ?_
      | refine ⟨fun hc => ?_, fun hc => ?_⟩
      | refine Ei.f ?_
      | refine ⟨?_, ?_⟩
      | intro b
      | omega
      | (dsimp only; omega)
      | fail)

end Go.Proofs.YthbpjjlinebooaaDoor


namespace Go.Proofs.YthbpjjlinebooaaDoor
open Go Pw
set_option maxRecDepth 20000
set_option maxHeartbeats 4000000
set_option maxHeartbeats 1000000
attribute [local irreducible] gt readS carI carR carS timK timI
theorem carry_spec (n : List Nat) [Ln n 11] [B64 n] :
    Sat Tryd.prog 87 [numA n] [] (fun u L' => u = numA (carS n 3) ∧ L' = []) := by
  all_goals
    refine Sat.enter Tryd.func87 rfl Tryd.ntmps87 rfl (fun c R => ?_)
    try simp only [List.cons_append, List.nil_append]
    repeat' (first
      | exact Nat.lt_of_le_of_lt (Nat.div_le_self _ _) (UInt8.toNat_lt _)
      | exact ((List.length_map ..).trans Ln.h).trans ((List.length_map ..).trans Ln.h).symm
      | exact lt_ln (by omega)
      | exact Lt64.h
      | exact (List.length_map ..).trans Ln.h
      | exact ((List.length_map ..).trans Ln.h).symm
      | exact trivial
      | (refine T.atB 2 ?_; refine T.lpa 2 [(1, _), (2, _), (3, _)] ((0, ys, 0) : Nat × List Nat × Nat) (fun s => [(5, .int .i64 (s.1 : Nat)), (4, .int .u64 (s.2.2 : Nat))]) (fun s => [row 143 bx (s.2.1.map vU64)]) (fun z => z.1 ≤ 11 ∧ z.2 = carI ys z.1) (fun s => 11 - s.1) ⟨Nat.zero_le _, by rw [carI]⟩ ?_; rintro ⟨i, zs, cy⟩ g ⟨hI, hz⟩; dsimp only at hI hz ⊢; obtain ⟨hz1, hz2⟩ : zs = (carI ys i).1 ∧ cy = (carI ys i).2 := ⟨congrArg Prod.fst hz, congrArg Prod.snd hz⟩; haveI : Ln zs 11 := (by rw [hz1]; infer_instance); haveI : B64 zs := (by rw [hz1]; infer_instance); haveI : Lt64 cy := (by rw [hz2]; infer_instance); simp only [List.cons_append, List.nil_append, appR])
      | (refine T.atB 0 ?_; rename_i bx; refine T.lpa 0 [(1, _), (2, _)] ((0, n) : Nat × List Nat) (fun s => [(3, .int .i64 (s.1 : Nat))]) (fun s => [row 143 bx (s.2.map vU64)]) (fun z => z.1 ≤ 3 ∧ z.2 = carS n z.1) (fun s => 3 - s.1) ⟨Nat.zero_le _, by rw [carS]⟩ ?_; rintro ⟨j, ys⟩ g ⟨hJ, hy⟩; dsimp only at hJ hy ⊢; haveI : Ln ys 11 := (by rw [hy]; infer_instance); haveI : B64 ys := (by rw [hy]; infer_instance); simp only [List.cons_append, List.nil_append, appR])
      | (refine TQ.atL ?_; refine TQ.rd (i + 1, _, _) rfl ⟨rfl, rfl, rfl, rfl, rfl, trivial⟩ ⟨by dsimp only; omega, ?_⟩ (by dsimp only; omega) (Ent.imp (by repeat first | exact Imp.refl _ | (apply Imp.pull; focus ((repeat first | exact Del.head _ _ | apply Del.tail); done)) | apply Imp.drop)); dsimp only; rw [carI, hz1, hz2])
      | (refine TQ.atL ?_; refine TQ.rd (j + 1, _) rfl ⟨rfl, rfl, rfl, trivial⟩ ⟨by dsimp only; omega, ?_⟩ (by dsimp only; omega) (Ent.imp (by repeat first | exact Imp.refl _ | (apply Imp.pull; focus ((repeat first | exact Del.head _ _ | apply Del.tail); done)) | apply Imp.drop)); dsimp only; have e11 : i = 11 := (by omega); rw [carS, ← hy, carR, hz1, hz2, e11])
      | (have e3 : j = 3 := (by omega); subst e3; exact Fini.mk ⟨by rw [hy]; rfl, rfl⟩)
      | decide
      | refine And.intro (fun hc => ?_) (fun hc => ?_)
      | refine And.intro ?_ ?_
      | intro b
      | refine stp ?_
      | refine TQ.finC ?_
      | refine TQ.finC2 ?_
      | refine TQ.finC3 ?_
      | refine ⟨fun hc => ?_, fun hc => ?_⟩
      | refine Ei.f ?_
      | refine ⟨?_, ?_⟩
      | intro b
      | omega
      | (dsimp only; omega)
      | fail)

instance {L : List Assn} {n : List Nat} [Ln n 11] [B64 n] : FnR Tryd.prog 87 [.agg (n.map vU64).toArray] L (fun kk => kk (.agg ((carS n 3).map vU64).toArray) L) :=
  ⟨fun kk h => ⟨[], L, _, carry_spec n, .nil _, fun v L' hq => by rw [hq.1, hq.2]; exact h⟩⟩
theorem reftimes_spec (xs ys : List Nat) [Ln xs 11] [B64 xs] [Ln ys 11] [B64 ys] :
    Sat Tryd.prog 86 [numA xs, numA ys] [] (fun u L' => u = numA (carS (timI xs ys 11) 3) ∧ L' = []) := by
  all_goals
    refine Sat.enter Tryd.func86 rfl Tryd.ntmps86 rfl (fun c R => ?_)
    try simp only [List.cons_append, List.nil_append]
    repeat' (first
      | exact Nat.lt_of_le_of_lt (Nat.div_le_self _ _) (UInt8.toNat_lt _)
      | exact ((List.length_map ..).trans Ln.h).trans ((List.length_map ..).trans Ln.h).symm
      | exact lt_ln (by omega)
      | exact Lt64.h
      | exact (List.length_map ..).trans Ln.h
      | exact ((List.length_map ..).trans Ln.h).symm
      | exact trivial
      | (refine T.atB 2 ?_; refine T.lpa 2 [(2, _), (3, _), (4, _), (5, _), (6, _)] ((0, timI xs ys i) : Nat × List Nat) (fun s => [(7, .int .i64 (s.1 : Nat))]) (fun s => [row 143 b (s.2.map vU64)]) (fun z => z.1 ≤ 11 ∧ z.2 = timK xs ys (timI xs ys i) i z.1) (fun s => 11 - s.1) ⟨Nat.zero_le _, by rw [timK]⟩ ?_; rintro ⟨k, ws⟩ g ⟨hK, hw⟩; dsimp only at hK hw ⊢; haveI : Ln ws 11 := (by rw [hw]; infer_instance); haveI : B64 ws := (by rw [hw]; infer_instance); simp only [List.cons_append, List.nil_append, appR])
      | (refine T.atB 0 ?_; rename_i ba bb b4; refine T.lpa 0 [(2, _), (3, _), (4, _), (5, _)] ((0, [.int .u64 0, .int .u64 0, .int .u64 0, .int .u64 0, .int .u64 0, .int .u64 0, .int .u64 0, .int .u64 0, .int .u64 0, .int .u64 0, .int .u64 0]) : Nat × List Value) (fun s => [(6, .int .i64 (s.1 : Nat))]) (fun s => [row 143 b s.2]) (fun z => z.1 ≤ 11 ∧ z.2 = (timI xs ys z.1).map vU64) (fun s => 11 - s.1) ⟨Nat.zero_le _, tim_0⟩ ?_; rintro ⟨i, zz⟩ g ⟨hI, hz⟩; dsimp only at hI hz ⊢; subst hz; simp only [List.cons_append, List.nil_append, appR])
      | (refine TQ.atL ?_; refine TQ.rd (k + 1, _) rfl ⟨rfl, rfl, rfl, rfl, rfl, rfl, trivial⟩ ⟨by dsimp only; omega, ?_⟩ (by dsimp only; omega) (Ent.imp (by repeat first | exact Imp.refl _ | (apply Imp.pull; focus ((repeat first | exact Del.head _ _ | apply Del.tail); done)) | apply Imp.drop)); dsimp only; rw [timK]; first | rw [if_pos (by omega), hw] | rw [if_neg (by omega), hw])
      | (refine TQ.atL ?_; refine TQ.rd (i + 1, _) rfl ⟨rfl, rfl, rfl, rfl, rfl, trivial⟩ ⟨by dsimp only; omega, ?_⟩ (by dsimp only; omega) (Ent.imp (by repeat first | exact Imp.refl _ | (apply Imp.pull; focus ((repeat first | exact Del.head _ _ | apply Del.tail); done)) | apply Imp.drop)); dsimp only; have e11 : k = 11 := (by omega); rw [timI, hw, e11])
      | (have e11 : i = 11 := (by omega); subst e11; exact Fini.mk ⟨rfl, rfl⟩)
      | decide
      | refine T.pl 8 [] (.p 0 (.p 1 (.p 3 (.p 4 (.d 2 (.d 5 (.p 6 (.p 7 .fin)))))))) ?_
      | refine And.intro (fun hc => ?_) (fun hc => ?_)
      | refine And.intro ?_ ?_
      | intro b
      | refine stp ?_
      | refine TQ.finC ?_
      | refine TQ.finC2 ?_
      | refine TQ.finC3 ?_
      | refine ⟨fun hc => ?_, fun hc => ?_⟩
      | refine Ei.f ?_
      | refine ⟨?_, ?_⟩
      | intro b
      | omega
      | (dsimp only; omega)
      | fail)

instance {L : List Assn} {xs ys : List Nat} [Ln xs 11] [B64 xs] [Ln ys 11] [B64 ys] : FnR Tryd.prog 86 [.agg (xs.map vU64).toArray, .agg (ys.map vU64).toArray] L (fun kk => kk (.agg ((carS (timI xs ys 11) 3).map vU64).toArray) L) :=
  ⟨fun kk h => ⟨[], L, _, reftimes_spec xs ys, .nil _, fun v L' hq => by rw [hq.1, hq.2]; exact h⟩⟩

end Go.Proofs.YthbpjjlinebooaaDoor


namespace Go.Proofs.YthbpjjlinebooaaDoor
open Go Pw
set_option maxRecDepth 20000
set_option maxHeartbeats 4000000
set_option maxHeartbeats 1000000

def belM (a : List Nat) : List Nat := a.set 0 ((gt a 0 + 5) % 18446744073709551616)
def belS (a : List Nat) : List Nat := if 0 < (carI (belM a) 11).2 ∨ 1023 < gt (carI (belM a) 11).1 10 then (carI (belM a) 11).1.set 10 (gt (carI (belM a) 11).1 10 &&& 1023) else a
def lowX (a : List Nat) (i c : Nat) : Nat → Nat
  | 0 => c
  | k + 1 => lowX a i c k + (gt a ((8 * i + k) / 12) / 2 ^ ((8 * i + k) % 12) &&& 1) * 2 ^ k
def lowS (a : List Nat) (s : List UInt8) : Nat → List UInt8 × Nat
  | 0 => (List.replicate 16 0, 0)
  | i + 1 => ((lowS a s i).1.set i (UInt8.ofNat (lowX a i ((lowS a s i).2 + (gt s i).toNat) 8)), lowX a i ((lowS a s i).2 + (gt s i).toNat) 8 / 2 ^ 8)
theorem lowX_lt (a : List Nat) (i c : Nat) : ∀ k, lowX a i c k < c + 2 ^ k
  | 0 => by rw [lowX]; omega
  | k + 1 => by
    have h1 := lowX_lt a i c k
    have h2 := and1_lt (gt a ((8 * i + k) / 12) / 2 ^ ((8 * i + k) % 12))
    have h3 : (gt a ((8 * i + k) / 12) / 2 ^ ((8 * i + k) % 12) &&& 1) * 2 ^ k ≤ 1 * 2 ^ k := Nat.mul_le_mul_right _ (by omega)
    rw [lowX, Nat.pow_succ]; omega
theorem lowS_c (a : List Nat) (s : List UInt8) : ∀ i, (lowS a s i).2 ≤ 1
  | 0 => by rw [lowS]; omega
  | i + 1 => by
    have h1 := lowS_c a s i
    have h2 := lowX_lt a i ((lowS a s i).2 + (gt s i).toNat) 8
    have h3 := (gt s i).toNat_lt
    rw [lowS]; dsimp only; omega
theorem lowS_len (a : List Nat) (s : List UInt8) : ∀ i, (lowS a s i).1.length = 16
  | 0 => rfl
  | i + 1 => by rw [lowS, List.length_set]; exact lowS_len a s i
instance {a : List Nat} {k : Nat} [h : Ln a k] : Ln (belM a) k := by unfold belM; infer_instance
instance {a : List Nat} [h : B64 a] : B64 (belM a) := by unfold belM; infer_instance
instance {a : List Nat} {k : Nat} [h : Ln a k] : Ln (belS a) k := by unfold belS; split <;> infer_instance
instance {a : List Nat} [h : B64 a] : B64 (belS a) := by unfold belS; split <;> infer_instance
theorem bel_t {a : List Nat} (h : 0 < (carI (belM a) 11).2 ∨ 1023 < gt (carI (belM a) 11).1 10) : belS a = (carI (belM a) 11).1.set 10 (gt (carI (belM a) 11).1 10 &&& 1023) := if_pos h
theorem bel_f {a : List Nat} (h : ¬ (0 < (carI (belM a) 11).2 ∨ 1023 < gt (carI (belM a) 11).1 10)) : belS a = a := if_neg h
attribute [local irreducible] gt readS carI carR carS timK timI
theorem below_spec (xs : List Nat) [Ln xs 11] [B64 xs] :
    Sat Tryd.prog 88 [numA xs] [] (fun u L' => u = numA (belS xs) ∧ L' = []) := by
  all_goals
    refine Sat.enter Tryd.func88 rfl Tryd.ntmps88 rfl (fun c R => ?_)
    try simp only [List.cons_append, List.nil_append]
    repeat' (first
      | exact Nat.lt_of_le_of_lt (Nat.div_le_self _ _) (UInt8.toNat_lt _)
      | exact ((List.length_map ..).trans Ln.h).trans ((List.length_map ..).trans Ln.h).symm
      | exact lt_ln (by omega)
      | exact Lt64.h
      | exact (List.length_map ..).trans Ln.h
      | exact ((List.length_map ..).trans Ln.h).symm
      | exact trivial
      | (refine T.atB 0 ?_; rename_i bx br; refine T.lpa 0 [(1, _), (2, _), (3, _)] ((0, xs.set 0 ((gt xs 0 + 5) % 18446744073709551616), 0) : Nat × List Nat × Nat) (fun s => [(5, .int .i64 (s.1 : Nat)), (4, .int .u64 (s.2.2 : Nat))]) (fun s => [row 143 b (s.2.1.map vU64)]) (fun z => z.1 ≤ 11 ∧ z.2 = carI (belM xs) z.1) (fun s => 11 - s.1) ⟨Nat.zero_le _, by rw [carI]; rfl⟩ ?_; rintro ⟨i, zs, cy⟩ g ⟨hI, hz⟩; dsimp only at hI hz ⊢; obtain ⟨hz1, hz2⟩ : zs = (carI (belM xs) i).1 ∧ cy = (carI (belM xs) i).2 := ⟨congrArg Prod.fst hz, congrArg Prod.snd hz⟩; haveI : Ln zs 11 := (by rw [hz1]; infer_instance); haveI : B64 zs := (by rw [hz1]; infer_instance); haveI : Lt64 cy := (by rw [hz2]; infer_instance); simp only [List.cons_append, List.nil_append, appR])
      | (refine TQ.atL ?_; refine TQ.rd (i + 1, _, _) rfl ⟨rfl, rfl, rfl, rfl, rfl, trivial⟩ ⟨by dsimp only; omega, ?_⟩ (by dsimp only; omega) (Ent.imp (by repeat first | exact Imp.refl _ | (apply Imp.pull; focus ((repeat first | exact Del.head _ _ | apply Del.tail); done)) | apply Imp.drop)); dsimp only; rw [carI, hz1, hz2])
      | (have e11 : i = 11 := (by omega); subst e11; exact Fini.mk ⟨by rw [bel_t (by rw [← hz1, ← hz2]; omega), ← hz1]; rfl, rfl⟩)
      | (have e11 : i = 11 := (by omega); subst e11; exact Fini.mk ⟨by rw [bel_f (by rw [← hz1, ← hz2]; omega)]; rfl, rfl⟩)
      | decide
      | refine And.intro (fun hc => ?_) (fun hc => ?_)
      | refine And.intro ?_ ?_
      | intro b
      | refine stp ?_
      | refine TQ.finC ?_
      | refine TQ.finC2 ?_
      | refine TQ.finC3 ?_
      | refine ⟨fun hc => ?_, fun hc => ?_⟩
      | refine Ei.f ?_
      | refine ⟨?_, ?_⟩
      | intro b
      | omega
      | (dsimp only; omega)
      | fail)

instance {L : List Assn} {xs : List Nat} [Ln xs 11] [B64 xs] : FnR Tryd.prog 88 [.agg (xs.map vU64).toArray] L (fun kk => kk (.agg ((belS xs).map vU64).toArray) L) :=
  ⟨fun kk h => ⟨[], L, _, below_spec xs, .nil _, fun v L' hq => by rw [hq.1, hq.2]; exact h⟩⟩
theorem and1_le (x k : Nat) (h : k ≤ 8) : (x &&& 1) * 2 ^ k < 257 := by
  have h1 := and1_lt x
  have h2 : (x &&& 1) * 2 ^ k ≤ 1 * 2 ^ k := Nat.mul_le_mul_right _ (by omega)
  have h3 : 2 ^ k ≤ 2 ^ 8 := Nat.pow_le_pow_right (by omega) (by omega)
  omega
attribute [local irreducible] lowX lowS

end Go.Proofs.YthbpjjlinebooaaDoor


namespace Go.Proofs.YthbpjjlinebooaaDoor
open Go Pw
set_option maxRecDepth 20000
set_option maxHeartbeats 4000000
set_option maxHeartbeats 200000
attribute [local irreducible] gt readS carI carR carS timK timI lowX lowS
theorem lowest_spec (xs : List Nat) (s : List UInt8) [Ln xs 11] [B64 xs] (hs : s.length = 16) :
    Sat Tryd.prog 89 [numA xs, str s] [] (fun u L' => u = str (lowS xs s 16).1 ∧ L' = []) := by
  all_goals
    refine Sat.enter Tryd.func89 rfl Tryd.ntmps89 rfl (fun c R => ?_)
    try simp only [List.cons_append, List.nil_append]
    repeat' (first
      | (refine Vc.mk (Nat.lt_trans hb2 (by decide)) ?_)
      | (refine T.atB 2 ?_; refine T.lpa 2 [(1, _), (2, _), (5, _), (7, _)] ((0, cy + (gt s i).toNat) : Nat × Nat) (fun s => [(9, .int .i64 (s.1 : Nat)), (8, .int .i64 (s.2 : Nat))]) (fun z => []) (fun z => z.1 ≤ 8 ∧ z.2 = lowX xs i (cy + (gt s i).toNat) z.1) (fun s => 8 - s.1) ⟨Nat.zero_le _, by rw [lowX]⟩ ?_; rintro ⟨k, x⟩ g ⟨hK, hx⟩; dsimp only at hK hx ⊢; have hxl : x < cy + (gt s i).toNat + 256 := (by have h := lowX_lt xs i (cy + (gt s i).toNat) k; have h2 : 2 ^ k ≤ 2 ^ 8 := Nat.pow_le_pow_right (by omega) hK; rw [hx]; omega); have hb1 := and1_lt (gt xs ((8 * i + k) / 12) / 2 ^ ((8 * i + k) % 12)); have hb2 := and1_le (gt xs ((8 * i + k) / 12) / 2 ^ ((8 * i + k) % 12)) k (by omega); simp only [List.cons_append, List.nil_append, appR])
      | (refine T.atB 0 ?_; rename_i bx; refine T.lpa 0 [(1, _), (2, _), (5, _)] ((0, List.replicate 16 0, 0) : Nat × List UInt8 × Nat) (fun s => [(7, .int .i64 (s.1 : Nat)), (6, .int .i64 (s.2.2 : Nat))]) (fun z => [sl 5 (0 + 1) (.slice (some ⟨b, 0, none⟩) 16 16) 16 (z.2.1.map byteV)]) (fun z => z.1 ≤ 16 ∧ z.2 = lowS xs s z.1) (fun s => 16 - s.1) ⟨Nat.zero_le _, by rw [lowS]⟩ ?_; rintro ⟨i, bs, cy⟩ g ⟨hI, hz⟩; dsimp only at hI hz ⊢; obtain ⟨hz1, hz2⟩ : bs = (lowS xs s i).1 ∧ cy = (lowS xs s i).2 := ⟨congrArg Prod.fst hz, congrArg Prod.snd hz⟩; have hcy : cy ≤ 1 := (by rw [hz2]; exact lowS_c _ _ _); have hbl : bs.length = 16 := (by rw [hz1]; exact lowS_len _ _ _); have hb8 := (gt s i).toNat_lt; simp only [List.cons_append, List.nil_append, appR])
      | (refine TQ.atL ?_; refine TQ.rd ((k + 1, _) : Nat × Nat) rfl ⟨rfl, rfl, rfl, rfl, rfl, rfl, trivial⟩ ⟨by dsimp only; omega, ?_⟩ (by dsimp only; omega) (Ent.imp (by repeat first | exact Imp.refl _ | (apply Imp.pull; focus ((repeat first | exact Del.head _ _ | apply Del.tail); done)) | apply Imp.drop)); dsimp only; rw [lowX, hx])
      | (refine TQ.atL ?_; refine TQ.rd ((i + 1, _, _) : Nat × List UInt8 × Nat) rfl ⟨rfl, rfl, rfl, rfl, rfl, trivial⟩ ⟨by dsimp only; omega, ?_⟩ (by dsimp only; omega) (Ent.imp (by repeat first | exact Imp.refl _ | (apply Imp.pull; focus ((repeat first | exact Del.head _ _ | apply Del.tail); done)) | apply Imp.drop)); dsimp only; have e8 : k = 8 := (by omega); subst e8; rw [lowS, ← hz2, ← hx, ← hz1])
      | (have e16 : i = 16 := (by omega); subst e16; exact Fini.mk ⟨by rw [hz1]; rfl, rfl⟩)
      | exact Nat.lt_of_le_of_lt (Nat.div_le_self _ _) (UInt8.toNat_lt _)
      | exact ((List.length_map ..).trans Ln.h).trans ((List.length_map ..).trans Ln.h).symm
      | exact lt_ln (by omega)
      | exact Lt64.h
      | exact (List.length_map ..).trans Ln.h
      | exact ((List.length_map ..).trans Ln.h).symm
      | exact trivial
      | refine And.intro (fun hc => ?_) (fun hc => ?_)
      | refine And.intro ?_ ?_
      | intro b
      | refine stp ?_
      | refine TQ.finC ?_
      | refine TQ.finC2 ?_
      | refine TQ.finC3 ?_
      | refine ⟨fun hc => ?_, fun hc => ?_⟩
      | refine Ei.f ?_
      | refine ⟨?_, ?_⟩
      | intro b
      | omega
      | (dsimp only; omega)
      | fail)

instance {L : List Assn} {xs : List Nat} {s : List UInt8} [Ln xs 11] [B64 xs] : FnR Tryd.prog 89 [.agg (xs.map vU64).toArray, str s] L (fun kk => Vc (s.length = 16) (kk (str (lowS xs s 16).1) L)) :=
  ⟨fun kk h => ⟨[], L, _, lowest_spec xs s h.l, .nil _, fun v L' hq => by rw [hq.1, hq.2]; exact h.r⟩⟩

end Go.Proofs.YthbpjjlinebooaaDoor

