/- Lemmas for the proofs of this seat: no statement of the seat is claimed here. -/
import Derived.Test.YthbpjjlinebooaaDoorKl
import Derived.Test.YthbpjjlinebooaaDoorKg
set_option linter.all false

namespace Go.Proofs.YthbpjjlinebooaaDoor
open Go Pw
set_option maxRecDepth 20000
set_option maxHeartbeats 4000000
set_option maxHeartbeats 1000000

instance (priority := 900) {n : Nat} : Inv byteV (.int .u8 ((n : Nat) : Int)) (UInt8.ofNat n) (n < 256) := ⟨fun h => by simp [byteV, Nat.mod_eq_of_lt h]⟩
def mskS (key : List UInt8) : Nat → List UInt8
  | 0 => key.take 16
  | i + 1 => if i % 4 = 3 then (mskS key i).set i (UInt8.ofNat ((gt (mskS key i) i).toNat &&& 15)) else if i % 4 = 0 ∧ 0 < i then (mskS key i).set i (UInt8.ofNat ((gt (mskS key i) i).toNat &&& 252)) else mskS key i
def addS (a p : List Nat) : Nat → List Nat
  | 0 => a
  | i + 1 => (addS a p i).set i ((gt (addS a p i) i + gt p i) % 18446744073709551616)
def rdE (s : List UInt8) : List Nat := readS s (min (8 * s.length) 132)
def accR (r : List Nat) (s : List UInt8) : Nat → List Nat
  | 0 => List.replicate 11 0
  | j + 1 => carS (timI (carS (addS (accR r s j) (rdE ((s.drop (16 * j)).take 16 ++ [1])) 11) 3) r 11) 3
def rtagE (key s : List UInt8) : List UInt8 := (lowS (belS (carS (accR (rdE (mskS key 16)) s ((s.length + 15) / 16)) 3)) (key.drop 16) 16).1
def RTagE (key s : List UInt8) : List UInt8 × Nat := if key.length = 32 then (rtagE key s, 0) else ([], 2)
theorem mskS_len {key : List UInt8} (h : key.length = 32) : ∀ i, (mskS key i).length = 16
  | 0 => by rw [mskS, List.length_take]; omega
  | i + 1 => by
    have h1 := mskS_len h i
    rw [mskS]
    split
    · rw [List.length_set]; exact h1
    · split
      · rw [List.length_set]; exact h1
      · exact h1
instance {s : List UInt8} : Ln (rdE s) 11 := instLnRead
instance {s : List UInt8} : B64 (rdE s) := instB64Read
instance instLnAdd {a p : List Nat} {i k : Nat} [h : Ln a k] : Ln (addS a p i) k := by
  induction i with
  | zero => exact h
  | succ i ih => rw [addS]; infer_instance
instance instB64Add {a p : List Nat} {i : Nat} [h : B64 a] : B64 (addS a p i) := by
  induction i with
  | zero => exact h
  | succ i ih => rw [addS]; infer_instance
instance instLnAcc {r : List Nat} {s : List UInt8} {j : Nat} : Ln (accR r s j) 11 := by
  cases j <;> (rw [accR]; infer_instance)
instance instB64Acc {r : List Nat} {s : List UInt8} {j : Nat} : B64 (accR r s j) := by
  cases j <;> (rw [accR]; infer_instance)
instance {L : List Assn} {s : List UInt8} : FnR Tryd.prog 85 [str s] L (fun kk => Vc (s.length ≤ 17) (kk (.agg ((rdE s).map vU64).toArray) L)) :=
  ⟨fun kk h => ⟨[], L, _, read_spec s h.l, .nil _, fun v L' hq => by rw [hq.1, hq.2]; exact h.r⟩⟩
theorem acc_0 {r : List Nat} {s : List UInt8} : [vU64 0, vU64 0, vU64 0, vU64 0, vU64 0, vU64 0, vU64 0, vU64 0, vU64 0, vU64 0, vU64 0] = (accR r s 0).map vU64 := rfl
theorem piece_ref {tx : List UInt8} {j : Nat} : List.drop (16 * j) (List.take (min (16 * j + 16) tx.length) tx) = (tx.drop (16 * j)).take 16 := by
  rw [List.drop_take]
  by_cases h : 16 * j + 16 ≤ tx.length
  · rw [show min (16 * j + 16) tx.length - 16 * j = 16 by omega]
  · rw [List.take_of_length_le (by rw [List.length_drop]; omega), List.take_of_length_le (by rw [List.length_drop]; omega)]
theorem and15 (x : Nat) : x &&& 15 < 256 := Nat.lt_of_le_of_lt Nat.and_le_right (by decide)
theorem and252 (x : Nat) : x &&& 252 < 256 := Nat.lt_of_le_of_lt Nat.and_le_right (by decide)
attribute [local irreducible] gt readS carI carR carS timK timI lowX lowS mskS addS rdE accR belS
theorem refTag_spec (key tx : List UInt8) (hn : tx.length < 4294967296) :
    Sat Tryd.prog 72 [str key, str tx] [] (fun u L' => u = asResult [str (RTagE key tx).1, .int .i64 ((RTagE key tx).2 : Nat)] ∧ L' = []) := by
  all_goals
    refine Sat.enter Tryd.func72 rfl Tryd.ntmps72 rfl (fun c R => ?_)
    try simp only [List.cons_append, List.nil_append]
    repeat' (first
      | exact Fini.mk ⟨by rw [RTagE, if_neg hc]; rfl, rfl⟩
      | (have ej : j = (tx.length + 15) / 16 := (by omega); exact Fini.mk ⟨by rw [RTagE, if_pos (by omega), rtagE, ← ej, ← hy]; rfl, rfl⟩)
      | (rw [piece_ref, List.length_take]; simp only [List.length_cons, List.length_nil]; omega)
      | (rw [List.length_append, piece_ref, List.length_take]; simp only [List.length_cons, List.length_nil]; omega)
      | (rw [List.length_drop]; omega)
      | (refine T.atB 0 ?_; rename_i bb; have h16 : (List.take 16 key).length = 16 := (by rw [List.length_take]; omega); simp only [h16]; refine T.lpa 0 [(0, _), (1, _), (6, _)] ((0, key.take 16) : Nat × List UInt8) (fun s => [(7, .int .i64 (s.1 : Nat))]) (fun z => [sl 5 1 (.slice (some ⟨bb, 0, none⟩) 16 b) 16 (z.2.map byteV)]) (fun z => z.1 ≤ 16 ∧ z.2 = mskS key z.1) (fun s => 16 - s.1) ⟨Nat.zero_le _, by rw [mskS]⟩ ?_; rintro ⟨i, ys⟩ g ⟨hI, hy⟩; dsimp only at hI hy ⊢; have hyl : ys.length = 16 := (by rw [hy]; exact mskS_len (by omega) _); have h15 := and15 (gt ys i).toNat; have h252 := and252 (gt ys i).toNat; simp only [List.cons_append, List.nil_append, appR])
      | (refine T.atB 2 ?_; rename_i br; obtain ⟨ba, hba⟩ : ∃ ba, ba = b := ⟨_, rfl⟩; subst hba; have e16 : i = 16 := (by omega); subst e16; haveI : Ln (rdE ys) 11 := inferInstance; refine T.lpa 2 [(0, _), (1, _), (8, _), (9, _)] ((0, [.int .u64 0, .int .u64 0, .int .u64 0, .int .u64 0, .int .u64 0, .int .u64 0, .int .u64 0, .int .u64 0, .int .u64 0, .int .u64 0, .int .u64 0]) : Nat × List Value) (fun s => [(10, .int .i64 ((16 * s.1 : Nat) : Int))]) (fun s => [row 143 ba s.2]) (fun z => 16 * z.1 ≤ tx.length + 15 ∧ z.2 = (accR (rdE ys) tx z.1).map vU64) (fun s => tx.length + 16 - 16 * s.1) ⟨by omega, acc_0⟩ ?_; rintro ⟨j, zz⟩ g ⟨hJ, hz⟩; dsimp only at hJ hz ⊢; subst hz; simp only [List.cons_append, List.nil_append, appR])
      | (refine T.atB 4 ?_; obtain ⟨bp, hbp⟩ : ∃ bp, bp = b := ⟨_, rfl⟩; subst hbp; simp only [piece_ref]; refine T.lpa 4 [(0, _), (1, _), (8, _), (9, _), (10, _), (11, _)] ((0, accR (rdE ys) tx j) : Nat × List Nat) (fun s => [(12, .int .i64 (s.1 : Nat))]) (fun s => [row 143 ba (s.2.map vU64)]) (fun z => z.1 ≤ 11 ∧ z.2 = addS (accR (rdE ys) tx j) (rdE ((tx.drop (16 * j)).take 16 ++ [1])) z.1) (fun s => 11 - s.1) ⟨Nat.zero_le _, by rw [addS]⟩ ?_; rintro ⟨i2, us⟩ g ⟨hI2, hu⟩; dsimp only at hI2 hu ⊢; haveI : Ln us 11 := (by rw [hu]; infer_instance); haveI : B64 us := (by rw [hu]; infer_instance); simp only [List.cons_append, List.nil_append, appR])
      | (refine TQ.atL ?_; refine TQ.rd ((i + 1, _) : Nat × List UInt8) rfl ⟨rfl, rfl, rfl, rfl, trivial⟩ ⟨by dsimp only; omega, ?_⟩ (by dsimp only; omega) (Ent.imp (by repeat first | exact Imp.refl _ | (apply Imp.pull; focus ((repeat first | exact Del.head _ _ | apply Del.tail); done)) | apply Imp.drop)); dsimp only; rw [mskS]; first | rw [if_pos (by omega), hy] | rw [if_neg (by omega), if_pos (by omega), hy] | rw [if_neg (by omega), if_neg (by omega), hy])
      | (refine TQ.atL ?_; refine TQ.rd ((j + 1, _) : Nat × List Value) rfl ⟨congrArg vI (by omega), rfl, rfl, rfl, rfl, trivial⟩ ⟨by dsimp only; omega, ?_⟩ (by dsimp only; omega) (Ent.imp (by repeat first | exact Imp.refl _ | (apply Imp.pull; focus ((repeat first | exact Del.head _ _ | apply Del.tail); done)) | apply Imp.drop)); dsimp only; have e11 : i2 = 11 := (by omega); subst e11; rw [accR, ← hu])
      | (refine TQ.atL ?_; refine TQ.rd ((i2 + 1, _) : Nat × List Nat) rfl ⟨rfl, rfl, rfl, rfl, rfl, rfl, rfl, trivial⟩ ⟨by dsimp only; omega, ?_⟩ (by dsimp only; omega) (Ent.imp (by repeat first | exact Imp.refl _ | (apply Imp.pull; focus ((repeat first | exact Del.head _ _ | apply Del.tail); done)) | apply Imp.drop)); dsimp only; rw [addS, ← hu])
      | exact Nat.lt_of_le_of_lt (Nat.div_le_self _ _) (UInt8.toNat_lt _)
      | exact ((List.length_map ..).trans Ln.h).trans ((List.length_map ..).trans Ln.h).symm
      | exact lt_ln (by omega)
      | exact Lt64.h
      | exact (List.length_map ..).trans Ln.h
      | exact ((List.length_map ..).trans Ln.h).symm
      | exact trivial
      | refine T.pl 20 [9] (.p 0 (.p 1 (.p 2 (.p 4 (.p 5 (.d 3 (.d 6 (.p 7 (.p 8 (.n 9 .fin)))))))))) ?_
      | refine T.pl 21 [1, 3, 4] (.d 0 (.b2 1 (.d 2 (.n 3 (.n 4 .fin))) 2 (.n 1 (.n 3 (.n 4 .fin))))) ?_
      | refine T.pl 23 [3] (.p 1 (.p 2 (.d 0 (.n 3 (.p 4 (.p 5 .fin)))))) ?_
      | refine And.intro (fun hc => ?_) (fun hc => ?_)
      | refine And.intro ?_ ?_
      | intro b
      | refine stp ?_
      | refine TQ.finC ?_
      | refine TQ.finC2 ?_
      | refine TQ.finC3 ?_
      | refine ⟨fun hc => ?_, fun hc => ?_⟩
      | refine Ei.f ?_
      | refine ⟨?_, ?_⟩
      | intro b
      | omega
      | (dsimp only; omega)
      | fail)

end Go.Proofs.YthbpjjlinebooaaDoor


namespace Go.Proofs.YthbpjjlinebooaaDoor
open Go Pw
set_option maxRecDepth 20000
set_option maxHeartbeats 4000000
/-! plain laws on digits of twelve bits -/
def val : List Nat → Nat
  | [] => 0
  | d :: l => d + 4096 * val l
theorem gt_cons0 {d : Nat} {l : List Nat} : gt (d :: l) 0 = d := rfl
theorem gt_consS {d i : Nat} {l : List Nat} : gt (d :: l) (i + 1) = gt l i := by simp [gt]
theorem val_set : ∀ (l : List Nat) (i x : Nat), i < l.length → val (l.set i x) + gt l i * 4096 ^ i = val l + x * 4096 ^ i
  | [], i, x, h => by cases h
  | d :: l, 0, x, _ => by rw [List.set_cons_zero, val, val, gt_cons0]; omega
  | d :: l, i + 1, x, h => by
    have ih := val_set l i x (by simpa using h)
    rw [List.set_cons_succ, val, val, gt_consS, Nat.pow_succ]
    have e1 : gt l i * (4096 ^ i * 4096) = 4096 * (gt l i * 4096 ^ i) := by rw [← Nat.mul_assoc, Nat.mul_comm]
    have e2 : x * (4096 ^ i * 4096) = 4096 * (x * 4096 ^ i) := by rw [← Nat.mul_assoc, Nat.mul_comm]
    rw [e1, e2]; omega
theorem val_lt : ∀ (l : List Nat), (∀ j, gt l j < 4096) → val l < 4096 ^ l.length
  | [], _ => by decide
  | d :: l, h => by
    have h0 : d < 4096 := h 0
    have ih := val_lt l (fun j => by have := h (j + 1); rwa [gt_consS] at this)
    rw [val, List.length_cons, Nat.pow_succ]; omega
theorem val_le {B : Nat} : ∀ (l : List Nat), (∀ j, gt l j ≤ B) → val l * 4095 + B ≤ B * 4096 ^ l.length
  | [], _ => by simp [val]
  | d :: l, h => by
    have h0 : d ≤ B := h 0
    have ih := val_le l (fun j => by have := h (j + 1); rwa [gt_consS] at this)
    rw [val, List.length_cons, Nat.pow_succ]
    have e : B * (4096 ^ l.length * 4096) = 4096 * (B * 4096 ^ l.length) := by rw [← Nat.mul_assoc, Nat.mul_comm]
    rw [e]; omega
theorem val_dig : ∀ (l : List Nat), (∀ j, gt l j < 4096) → ∀ j, val l / 4096 ^ j % 4096 = gt l j
  | [], _, j => by simp [val, gt]
  | d :: l, h, 0 => by
    have h0 : d < 4096 := h 0
    rw [val, gt_cons0]; omega
  | d :: l, h, j + 1 => by
    have h0 : d < 4096 := h 0
    have ih := val_dig l (fun j => by have := h (j + 1); rwa [gt_consS] at this) j
    rw [val, gt_consS, Nat.pow_succ, Nat.mul_comm (4096 ^ j), ← Nat.div_div_eq_div_mul, show (d + 4096 * val l) / 4096 = val l by omega]
    exact ih
theorem val_of : ∀ (l : List Nat) (x : Nat), (∀ j, j < l.length → gt l j = x / 4096 ^ j % 4096) → val l = x % 4096 ^ l.length
  | [], x, _ => by simp [val, Nat.mod_one]
  | d :: l, x, h => by
    have h0 := h 0 (by simp)
    rw [gt_cons0] at h0
    have ih := val_of l (x / 4096) (fun j hj => by
      have := h (j + 1) (by simpa using hj)
      rw [gt_consS, Nat.pow_succ, Nat.mul_comm (4096 ^ j), ← Nat.div_div_eq_div_mul] at this
      exact this)
    rw [val, ih, List.length_cons, Nat.pow_succ, Nat.mul_comm (4096 ^ _), Nat.mod_mul, h0]
    simp
theorem val_take : ∀ (l : List Nat) (k : Nat), k < l.length → val (l.take (k + 1)) = val (l.take k) + gt l k * 4096 ^ k
  | [], k, h => by cases h
  | d :: l, 0, _ => by simp [val, gt]
  | d :: l, k + 1, h => by
    have ih := val_take l k (by simpa using h)
    rw [List.take_succ_cons, List.take_succ_cons, val, val, ih, gt_consS, Nat.pow_succ]
    have e1 : gt l k * (4096 ^ k * 4096) = 4096 * (gt l k * 4096 ^ k) := by rw [← Nat.mul_assoc, Nat.mul_comm]
    rw [e1]; omega
/-- a byte, and the carry of a sum -/
def byt (x j : Nat) : Nat := x / 256 ^ j % 256
def cyE (A S i : Nat) : Nat := (A % 256 ^ i + S % 256 ^ i) / 256 ^ i
theorem cy_0 (A S : Nat) : cyE A S 0 = 0 := by simp [cyE, Nat.mod_one]
theorem mod_byt (A i : Nat) : A % 256 ^ (i + 1) = A % 256 ^ i + 256 ^ i * byt A i := by
  rw [Nat.pow_succ, Nat.mod_mul, byt]
theorem cy_step (A S i : Nat) : cyE A S (i + 1) = (cyE A S i + byt A i + byt S i) / 256 := by
  have hp : 0 < 256 ^ i := Nat.pow_pos (by decide)
  unfold cyE
  rw [mod_byt, mod_byt, Nat.pow_succ, ← Nat.div_div_eq_div_mul]
  congr 1
  rw [show A % 256 ^ i + 256 ^ i * byt A i + (S % 256 ^ i + 256 ^ i * byt S i) = A % 256 ^ i + S % 256 ^ i + 256 ^ i * (byt A i + byt S i) by rw [Nat.mul_add]; omega, Nat.add_mul_div_left _ _ hp]
  omega
theorem byt_sum (A S i : Nat) : byt (A + S) i = (cyE A S i + byt A i + byt S i) % 256 := by
  have hp : 0 < 256 ^ i := Nat.pow_pos (by decide)
  unfold cyE byt
  have e : A + S = A % 256 ^ i + S % 256 ^ i + 256 ^ i * (A / 256 ^ i + S / 256 ^ i) := by
    have h1 := Nat.div_add_mod A (256 ^ i)
    have h2 := Nat.div_add_mod S (256 ^ i)
    rw [Nat.mul_add]; omega
  have e2 : (A + S) / 256 ^ i = (A % 256 ^ i + S % 256 ^ i) / 256 ^ i + (A / 256 ^ i + S / 256 ^ i) := by
    conv => lhs; rw [e]
    rw [Nat.add_mul_div_left _ _ hp]
  rw [e2]; omega
theorem cy_le (A S i : Nat) : cyE A S i ≤ 1 := by
  have hp : 0 < 256 ^ i := Nat.pow_pos (by decide)
  unfold cyE
  have h1 := Nat.mod_lt A hp
  have h2 := Nat.mod_lt S hp
  have : (A % 256 ^ i + S % 256 ^ i) / 256 ^ i < 2 := (Nat.div_lt_iff_lt_mul hp).2 (by omega)
  omega
theorem byt_add_mul (x y j : Nat) (h : j < 16) : byt (x + 340282366920938463463374607431768211456 * y) j = byt x j := by
  unfold byt
  rcases (by omega : j = 0 ∨ j = 1 ∨ j = 2 ∨ j = 3 ∨ j = 4 ∨ j = 5 ∨ j = 6 ∨ j = 7 ∨ j = 8 ∨ j = 9 ∨ j = 10 ∨ j = 11 ∨ j = 12 ∨ j = 13 ∨ j = 14 ∨ j = 15) with rfl | rfl | rfl | rfl | rfl | rfl | rfl | rfl | rfl | rfl | rfl | rfl | rfl | rfl | rfl | rfl <;> simp only [Nat.reducePow] <;> omega
/-! the carry -/
theorem pow11 : (4096 : Nat) ^ 11 = 5444517870735015415413993718908291383296 := by decide
theorem pow10 : (4096 : Nat) ^ 10 = 1329227995784915872903807060280344576 := by decide
theorem gt_setN {l : List Nat} {i j x : Nat} (h : i < l.length) : gt (l.set i x) j = if i = j then x else gt l j := by
  unfold gt
  rw [List.getD_eq_getElem?_getD, List.getD_eq_getElem?_getD, List.getElem?_set]
  split
  · next e => subst e; simp [h]
  · rfl
theorem carI_len (n : List Nat) : ∀ i, (carI n i).1.length = n.length
  | 0 => rfl
  | i + 1 => by rw [carI, List.length_set]; exact carI_len n i
theorem and4095 (x : Nat) : x &&& 4095 = x % 4096 := by rw [show (4095 : Nat) = 2 ^ 12 - 1 from rfl, Nat.and_two_pow_sub_one_eq_mod]
theorem and1023 (x : Nat) : x &&& 1023 = x % 1024 := by rw [show (1023 : Nat) = 2 ^ 10 - 1 from rfl, Nat.and_two_pow_sub_one_eq_mod]
theorem carI_spec {n : List Nat} (hn : ∀ j, gt n j < 4611686018427387904) : ∀ i, i ≤ n.length → (∀ j, j < i → gt (carI n i).1 j < 4096) ∧ (∀ j, i ≤ j → gt (carI n i).1 j = gt n j) ∧ (carI n i).2 < 2251799813685248 ∧ val (carI n i).1 + (carI n i).2 * 4096 ^ i = val n
  | 0, _ => ⟨fun j hj => by omega, fun j _ => rfl, by rw [carI]; exact (by decide : (0 : Nat) < 2251799813685248), by rw [carI]; simp⟩
  | i + 1, hi => by
    obtain ⟨h1, h2, h3, h4⟩ := carI_spec hn i (by omega)
    have hl := carI_len n i
    have hg := h2 i (Nat.le_refl _)
    have hb := hn i
    have hv := val_set (carI n i).1 i ((gt (carI n i).1 i + (carI n i).2) % 4096) (by omega)
    rw [carI]
    dsimp only
    rw [Nat.mod_eq_of_lt (show gt (carI n i).1 i + (carI n i).2 < 18446744073709551616 by omega), and4095]
    refine ⟨fun j hj => ?_, fun j hj => ?_, by omega, ?_⟩
    · rw [gt_setN (by omega)]
      split
      · omega
      · exact h1 j (by omega)
    · rw [gt_setN (by omega), if_neg (by omega)]; exact h2 j (by omega)
    · generalize hx : gt (carI n i).1 i + (carI n i).2 = x at *
      have e1 : x * 4096 ^ i = gt (carI n i).1 i * 4096 ^ i + (carI n i).2 * 4096 ^ i := by rw [← hx, Nat.add_mul]
      have e2 : x * 4096 ^ i = 4096 * (x / 4096 * 4096 ^ i) + x % 4096 * 4096 ^ i := by
        conv => lhs; rw [← Nat.div_add_mod x 4096, Nat.add_mul, Nat.mul_assoc]
      have e3 : x / 2 ^ 12 * 4096 ^ (i + 1) = 4096 * (x / 4096 * 4096 ^ i) := by
        rw [show (2 : Nat) ^ 12 = 4096 from rfl, Nat.pow_succ, ← Nat.mul_assoc, Nat.mul_comm]
      rw [e3]; omega
theorem or4 {c d : Nat} (h : d < 4) : c * 2 ^ 2 ||| d = c * 4 + d := by
  rw [Nat.mul_comm, ← Nat.two_pow_add_eq_or_of_lt (i := 2) (by omega)]
theorem digits11 {l : List Nat} (h : l.length = 11) {j : Nat} (hj : 11 ≤ j) : gt l j = 0 := by
  unfold gt; rw [List.getD_eq_getElem?_getD, List.getElem?_eq_none (by omega)]; rfl
/-- one round: what is above 2^130 five times at the front -/
theorem carR_spec {n : List Nat} (hl : n.length = 11) (hn : ∀ j, gt n j < 4611686018427387904) : val (carR n) = foldE (val n) ∧ (carR n).length = 11 ∧ (∀ j, 0 < j → gt (carR n) j < 4096) ∧ gt (carR n) 0 < 4096 + 5 * (val n / 1361129467683753853853498429727072845824) ∧ gt (carR n) 10 < 1024 ∧ (∀ j, gt (carR n) j < 4611686018427387904) := by
  obtain ⟨h1, h2, h3, h4⟩ := carI_spec hn 11 (by omega)
  have hml := carI_len n 11
  generalize hm : (carI n 11).1 = m at *
  generalize hc : (carI n 11).2 = c at *
  have hd : ∀ j, gt m j < 4096 := fun j => by
    by_cases hj : j < 11
    · exact h1 j hj
    · rw [digits11 (by omega) (by omega)]; decide
  have h10 := hd 10
  have hv1 := val_set m 10 (gt m 10 % 1024) (by omega)
  have hl1 : (m.set 10 (gt m 10 % 1024)).length = 11 := by rw [List.length_set]; omega
  have hd1 : ∀ j, gt (m.set 10 (gt m 10 % 1024)) j < 4096 := fun j => by
    rw [gt_setN (by omega)]; split
    · omega
    · exact hd j
  have hlt : val (m.set 10 (gt m 10 % 1024)) < 1361129467683753853853498429727072845824 := by
    have h5 := val_take (m.set 10 (gt m 10 % 1024)) 10 (by omega)
    rw [List.take_of_length_le (by omega), gt_setN (by omega), if_pos rfl] at h5
    have h6 := val_lt ((m.set 10 (gt m 10 % 1024)).take 10) (fun j => by
      unfold gt
      rw [List.getD_eq_getElem?_getD, List.getElem?_take]
      split
      · have := hd1 j; unfold gt at this; rwa [List.getD_eq_getElem?_getD] at this
      · decide)
    rw [List.length_take, hl1, show min 10 11 = 10 from rfl, pow10] at h6
    rw [h5, pow10]; omega
  unfold carR
  rw [hm, hc]
  dsimp only
  rw [and1023, Nat.mod_eq_of_lt (show c * 2 ^ 2 < 18446744073709551616 by omega), or4 (by omega)]
  generalize hw : m.set 10 (gt m 10 % 1024) = w at *
  have hw0 := hd1 0
  rw [pow11] at h4
  rw [pow10] at hv1
  have hq : val n / 1361129467683753853853498429727072845824 = c * 4 + gt m 10 / 2 ^ 10 ∧ val n % 1361129467683753853853498429727072845824 = val w := by omega
  have hc2 : c * 4 + gt m 10 / 2 ^ 10 < 9007199254740996 := by omega
  rw [Nat.mod_eq_of_lt (show 5 * (c * 4 + gt m 10 / 2 ^ 10) < 18446744073709551616 by omega), Nat.mod_eq_of_lt (show gt w 0 + 5 * (c * 4 + gt m 10 / 2 ^ 10) < 18446744073709551616 by omega)]
  have hv0 := val_set w 0 (gt w 0 + 5 * (c * 4 + gt m 10 / 2 ^ 10)) (by omega)
  rw [Nat.pow_zero, Nat.mul_one, Nat.mul_one] at hv0
  refine ⟨?_, by rw [List.length_set]; exact hl1, fun j hj => ?_, ?_, ?_, fun j => ?_⟩
  · unfold foldE; omega
  · rw [gt_setN (by omega), if_neg (by omega)]; exact hd1 j
  · rw [gt_setN (by omega), if_pos rfl]; omega
  · rw [gt_setN (by omega), if_neg (by omega), ← hw, gt_setN (by omega), if_pos rfl]; omega
  · rw [gt_setN (by omega)]
    split
    · omega
    · exact Nat.lt_of_lt_of_le (hd1 j) (by decide)
theorem fold_mod (x : Nat) : foldE x % 1361129467683753853853498429727072845819 = x % 1361129467683753853853498429727072845819 := by
  unfold foldE; omega
/-- digits as they are to be, below 2^130 -/
structure Can (n : List Nat) : Prop where
  len : n.length = 11
  dig : ∀ j, gt n j < 4096
  lt : val n < 1361129467683753853853498429727072845824
theorem carS_spec {n : List Nat} (hl : n.length = 11) (hn : ∀ j, gt n j < 4611686018427387904) : Can (carS n 3) ∧ val (carS n 3) % 1361129467683753853853498429727072845819 = val n % 1361129467683753853853498429727072845819 := by
  have hv := val_le (B := 4611686018427387903) n (fun j => by have := hn j; omega)
  rw [hl, pow11] at hv
  obtain ⟨a1, a2, a3, a4, a5, a6⟩ := carR_spec hl hn
  obtain ⟨b1, b2, b3, b4, b5, b6⟩ := carR_spec a2 a6
  obtain ⟨c1, c2, c3, c4, c5, c6⟩ := carR_spec b2 b6
  have e : carS n 3 = carR (carR (carR n)) := rfl
  rw [e]
  have f1 : val (carR n) < 2 * 1361129467683753853853498429727072845824 := by rw [a1]; unfold foldE; omega
  have f2 : val (carR (carR n)) < 1361129467683753853853498429727072845824 := by
    have : val (carR n) < 1361129467683753853853498429727072845824 + 5 * 18446744073709551616 := by rw [a1]; unfold foldE; omega
    rw [b1]; unfold foldE; omega
  refine ⟨⟨c2, fun j => ?_, ?_⟩, ?_⟩
  · rcases Nat.eq_zero_or_pos j with rfl | h
    · rw [show val (carR (carR n)) / 1361129467683753853853498429727072845824 = 0 by omega] at c4; omega
    · exact c3 j h
  · rw [c1]; unfold foldE; omega
  · rw [c1, fold_mod, b1, fold_mod, a1, fold_mod]
/-! the product -/
theorem mod_add {p A B d q : Nat} (h : A % p = B % p) : (A + d) % p = (B + d + p * q) % p := by
  rw [Nat.add_mul_mod_self_left, Nat.add_mod, h, ← Nat.add_mod]
theorem mod_add0 {p A B d : Nat} (h : A % p = B % p) : (A + d) % p = (B + d) % p := by
  rw [Nat.add_mod, h, ← Nat.add_mod]
theorem timK_spec {a b n : List Nat} {i E : Nat} (hn : n.length = 11) (ha : gt a i < 4096) (hb : ∀ j, gt b j < 4096) (hbl : b.length = 11) (hi : i < 11) (hE : E ≤ 4611686018427387904) (hnE : ∀ j, gt n j ≤ E) : ∀ k, k ≤ 11 → (timK a b n i k).length = 11 ∧ (∀ j, gt (timK a b n i k) j ≤ E + k * 536870912) ∧ val (timK a b n i k) % 1361129467683753853853498429727072845819 = (val n + gt a i * 4096 ^ i * val (b.take k)) % 1361129467683753853853498429727072845819
  | 0, _ => ⟨hn, fun j => by rw [timK]; have := hnE j; omega, by rw [timK]; simp [val]⟩
  | k + 1, hk => by
    obtain ⟨h1, h2, h3⟩ := timK_spec hn ha hb hbl hi hE hnE k (by omega)
    have hbk := hb k
    have hx : gt a i * gt b k ≤ 4095 * 4095 := Nat.mul_le_mul (by omega) (by omega)
    rw [timK]
    generalize hz : timK a b n i k = z at *
    rw [Nat.mod_eq_of_lt (show gt a i * gt b k < 18446744073709551616 by omega)]
    generalize hxx : gt a i * gt b k = x at *
    have ht := val_take b k (by omega)
    have et : gt a i * 4096 ^ i * (gt b k * 4096 ^ k) = x * 4096 ^ (i + k) := by
      rw [← hxx, Nat.pow_add, Nat.mul_mul_mul_comm]
    rw [ht, Nat.mul_add, et, ← Nat.add_assoc]
    split
    · next hik =>
      have hg := h2 (i + k - 11)
      rw [Nat.mod_eq_of_lt (show 20 * x < 18446744073709551616 by omega), Nat.mod_eq_of_lt (show gt z (i + k - 11) + 20 * x < 18446744073709551616 by omega)]
      have hv := val_set z (i + k - 11) (gt z (i + k - 11) + 20 * x) (by omega)
      rw [Nat.add_mul] at hv
      refine ⟨by rw [List.length_set]; exact h1, fun j => ?_, ?_⟩
      · rw [gt_setN (by omega)]
        have := h2 j
        clear h3 hv ht et
        split
        · rw [Nat.add_mul, Nat.one_mul]; omega
        · rw [Nat.add_mul, Nat.one_mul]; exact Nat.le_trans this (by clear this hg; generalize k * 536870912 = u; omega)
      · have e : x * 4096 ^ (i + k) = 20 * x * 4096 ^ (i + k - 11) + 1361129467683753853853498429727072845819 * (4 * (x * 4096 ^ (i + k - 11))) := by
          obtain ⟨m, hm⟩ : ∃ m, i + k = m + 11 := ⟨i + k - 11, by omega⟩
          rw [hm, Nat.add_sub_cancel, Nat.pow_add, pow11, ← Nat.mul_assoc, Nat.mul_assoc 20]
          generalize x * 4096 ^ m = y
          omega
        rw [e, show val (z.set (i + k - 11) (gt z (i + k - 11) + 20 * x)) = val z + 20 * x * 4096 ^ (i + k - 11) by omega, ← Nat.add_assoc]
        exact mod_add h3
    · next hik =>
      have hg := h2 (i + k)
      rw [Nat.mod_eq_of_lt (show gt z (i + k) + x < 18446744073709551616 by omega)]
      have hv := val_set z (i + k) (gt z (i + k) + x) (by omega)
      rw [Nat.add_mul] at hv
      refine ⟨by rw [List.length_set]; exact h1, fun j => ?_, ?_⟩
      · rw [gt_setN (by omega)]
        have := h2 j
        clear h3 hv ht et
        split
        · rw [Nat.add_mul, Nat.one_mul]; omega
        · rw [Nat.add_mul, Nat.one_mul]; exact Nat.le_trans this (by clear this hg; generalize k * 536870912 = u; omega)
      · rw [show val (z.set (i + k) (gt z (i + k) + x)) = val z + x * 4096 ^ (i + k) by omega]
        exact mod_add0 h3
theorem timI_spec {a b : List Nat} (hal : a.length = 11) (ha : ∀ j, gt a j < 4096) (hb : ∀ j, gt b j < 4096) (hbl : b.length = 11) : ∀ i, i ≤ 11 → (timI a b i).length = 11 ∧ (∀ j, gt (timI a b i) j ≤ i * 5905580032) ∧ val (timI a b i) % 1361129467683753853853498429727072845819 = (val (a.take i) * val b) % 1361129467683753853853498429727072845819
  | 0, _ => ⟨rfl, fun j => by rw [timI]; unfold gt; rw [List.getD_eq_getElem?_getD, List.getElem?_replicate]; split <;> simp <;> exact Nat.le_refl 0, by rw [timI]; simp [val, List.replicate]⟩
  | i + 1, hi => by
    obtain ⟨h1, h2, h3⟩ := timI_spec hal ha hb hbl i (by omega)
    obtain ⟨k1, k2, k3⟩ := timK_spec (a := a) (i := i) h1 (ha i) hb hbl (by omega) (by omega) h2 11 (Nat.le_refl _)
    rw [timI]
    refine ⟨k1, fun j => by have := k2 j; omega, ?_⟩
    rw [k3, List.take_of_length_le (l := b) (by omega), val_take a i (by omega), Nat.add_mul]
    exact mod_add0 h3
theorem belS_spec {a : List Nat} (h : Can a) : (belS a).length = 11 ∧ (∀ j, gt (belS a) j < 4096) ∧ val (belS a) = val a % 1361129467683753853853498429727072845819 := by
  obtain ⟨hl, hd, hlt⟩ := h
  have h0 := hd 0
  have hv0 := val_set a 0 (gt a 0 + 5) (by omega)
  rw [Nat.pow_zero, Nat.mul_one, Nat.mul_one] at hv0
  have e0 : belM a = a.set 0 (gt a 0 + 5) := by rw [belM, Nat.mod_eq_of_lt (by omega)]
  obtain ⟨h1, h2, h3, h4⟩ := carI_spec (n := belM a) (fun j => by
    rw [e0, gt_setN (by omega)]
    split
    · omega
    · exact Nat.lt_of_lt_of_le (hd j) (by decide)) 11 (by rw [e0, List.length_set]; omega)
  have hml := carI_len (belM a) 11
  rw [show (belM a).length = 11 by rw [e0, List.length_set]; exact hl] at hml
  rw [show val (belM a) = val a + 5 by rw [e0]; omega, pow11] at h4
  unfold belS
  generalize hm : (carI (belM a) 11).1 = m at *
  generalize hc : (carI (belM a) 11).2 = c at *
  have hdm : ∀ j, gt m j < 4096 := fun j => by
    by_cases hj : j < 11
    · exact h1 j hj
    · rw [digits11 (by omega) (by omega)]; decide
  have h10 := hdm 10
  have hc0 : c = 0 := by omega
  subst hc0
  have h5 := val_take m 10 (by omega)
  rw [List.take_of_length_le (by omega), pow10] at h5
  have h6 := val_lt (m.take 10) (fun j => by
    unfold gt
    rw [List.getD_eq_getElem?_getD, List.getElem?_take]
    split
    · have := hdm j; unfold gt at this; rwa [List.getD_eq_getElem?_getD] at this
    · decide)
  rw [List.length_take, hml, show min 10 11 = 10 from rfl, pow10] at h6
  split
  · next hh =>
    have hv1 := val_set m 10 (gt m 10 % 1024) (by omega)
    rw [pow10] at hv1
    have hm10 : gt m 10 = 1024 := by omega
    rw [and1023]
    refine ⟨by rw [List.length_set]; exact hml, fun j => ?_, by rw [hm10] at hv1 h5 ⊢; omega⟩
    rw [gt_setN (by omega)]
    split
    · omega
    · exact hdm j
  · next hh => exact ⟨hl, hd, by omega⟩
theorem gt_consB {d : UInt8} {i : Nat} {l : List UInt8} : gt (d :: l) (i + 1) = gt l i := by simp [gt]
theorem byt_le : ∀ (l : List UInt8) (j : Nat), byt (leE l) j = (gt l j).toNat
  | [], j => by simp [leE, byt, gt]; rfl
  | b :: l, 0 => by
    have := b.toNat_lt
    rw [leE, byt, show gt (b :: l) 0 = b from rfl]; omega
  | b :: l, j + 1 => by
    have := b.toNat_lt
    have ih := byt_le l j
    unfold byt at ih ⊢
    rw [leE, gt_consB, Nat.pow_succ, Nat.mul_comm (256 ^ j), ← Nat.div_div_eq_div_mul, show (b.toNat + 256 * leE l) / 256 = leE l by omega]
    exact ih
theorem bit_val {a : List Nat} (h : ∀ j, gt a j < 4096) (n : Nat) : (gt a (n / 12) / 2 ^ (n % 12) &&& 1) = val a / 2 ^ n % 2 := by
  rw [Nat.and_one_is_mod, ← val_dig a h (n / 12)]
  have e : (4096 : Nat) ^ (n / 12) = 2 ^ (12 * (n / 12)) := by rw [Nat.pow_mul]
  have e2 : 2 ^ n = 4096 ^ (n / 12) * 2 ^ (n % 12) := by rw [e, ← Nat.pow_add]; congr 1; omega
  rw [e2, ← Nat.div_div_eq_div_mul]
  generalize val a / 4096 ^ (n / 12) = y
  have hm : n % 12 < 12 := Nat.mod_lt _ (by decide)
  generalize n % 12 = m at *
  rcases (by omega : m = 0 ∨ m = 1 ∨ m = 2 ∨ m = 3 ∨ m = 4 ∨ m = 5 ∨ m = 6 ∨ m = 7 ∨ m = 8 ∨ m = 9 ∨ m = 10 ∨ m = 11) with rfl | rfl | rfl | rfl | rfl | rfl | rfl | rfl | rfl | rfl | rfl | rfl <;> simp only [Nat.reducePow] <;> omega
theorem lowX_spec {a : List Nat} (h : ∀ j, gt a j < 4096) (i c : Nat) : ∀ k, lowX a i c k = c + val a / 2 ^ (8 * i) % 2 ^ k
  | 0 => by simp [lowX, Nat.mod_one]
  | k + 1 => by
    rw [lowX, lowX_spec h i c k, bit_val h, Nat.pow_add, ← Nat.div_div_eq_div_mul, Nat.mod_pow_succ, Nat.mul_comm (2 ^ k), Nat.add_assoc]
theorem lowS_spec {a : List Nat} (h : ∀ j, gt a j < 4096) (s : List UInt8) : ∀ i, i ≤ 16 → (lowS a s i).1.length = 16 ∧ (lowS a s i).2 = cyE (val a) (leE s) i ∧ ∀ j, j < i → gt (lowS a s i).1 j = UInt8.ofNat (byt (val a + leE s) j)
  | 0, _ => ⟨rfl, by rw [lowS, cy_0], fun j hj => by omega⟩
  | i + 1, hi => by
    obtain ⟨h1, h2, h3⟩ := lowS_spec h s i (by omega)
    have e : lowX a i ((lowS a s i).2 + (gt s i).toNat) 8 = cyE (val a) (leE s) i + byt (val a) i + byt (leE s) i := by
      rw [lowX_spec h, h2, ← byt_le]
      unfold byt
      rw [show (2 : Nat) ^ (8 * i) = 256 ^ i by rw [Nat.pow_mul]]; omega
    rw [lowS, e]
    dsimp only
    refine ⟨by rw [List.length_set]; exact h1, by rw [cy_step], fun j hj => ?_⟩
    unfold gt at h3 ⊢
    rw [List.getD_eq_getElem?_getD, List.getElem?_set]
    split
    · next e2 =>
      subst e2
      rw [if_pos (by omega), byt_sum]
      apply UInt8.toNat_inj.1
      simp
    · have := h3 j (by omega)
      rw [List.getD_eq_getElem?_getD] at this
      exact this
theorem bit_leE (s : List UInt8) (n : Nat) : ((gt s (n / 8)).toNat / 2 ^ (n % 8) &&& 1) = leE s / 2 ^ n % 2 := by
  rw [Nat.and_one_is_mod, ← byt_le s (n / 8), byt]
  have e : (256 : Nat) ^ (n / 8) = 2 ^ (8 * (n / 8)) := by rw [Nat.pow_mul]
  have e2 : 2 ^ n = 256 ^ (n / 8) * 2 ^ (n % 8) := by rw [e, ← Nat.pow_add]; congr 1; omega
  rw [e2, ← Nat.div_div_eq_div_mul]
  generalize leE s / 256 ^ (n / 8) = y
  have hm : n % 8 < 8 := Nat.mod_lt _ (by decide)
  generalize n % 8 = m at *
  rcases (by omega : m = 0 ∨ m = 1 ∨ m = 2 ∨ m = 3 ∨ m = 4 ∨ m = 5 ∨ m = 6 ∨ m = 7) with rfl | rfl | rfl | rfl | rfl | rfl | rfl | rfl <;> simp only [Nat.reducePow] <;> omega
theorem readS_spec (s : List UInt8) : ∀ i, i ≤ 132 → (readS s i).length = 11 ∧ ∀ j, j < 11 → gt (readS s i) j = leE s % 2 ^ i / 4096 ^ j % 4096
  | 0, _ => ⟨rfl, fun j hj => by
    rw [readS, Nat.pow_zero, Nat.mod_one, Nat.zero_div, Nat.zero_mod]
    unfold gt; rw [List.getD_eq_getElem?_getD, List.getElem?_replicate]; split <;> rfl⟩
  | i + 1, hi => by
    obtain ⟨h1, h2⟩ := readS_spec s i (by omega)
    refine ⟨by rw [readS, List.length_set]; exact h1, fun j hj => ?_⟩
    have hJ : i / 12 < 11 := by omega
    rw [readS, gt_setN (by omega), bit_leE, Nat.mod_pow_succ]
    have hb : leE s / 2 ^ i % 2 ≤ 1 := by omega
    generalize leE s / 2 ^ i % 2 = b at *
    have hY : leE s % 2 ^ i < 2 ^ i := Nat.mod_lt _ (Nat.pow_pos (by decide))
    have e2 : 2 ^ i = 4096 ^ (i / 12) * 2 ^ (i % 12) := by
      have e : (4096 : Nat) ^ (i / 12) = 2 ^ (12 * (i / 12)) := by rw [Nat.pow_mul]
      rw [e, ← Nat.pow_add]; congr 1; omega
    have hr : 2 ^ (i % 12) ≤ 2 ^ 11 := Nat.pow_le_pow_right (by decide) (by omega)
    have hg := h2 (i / 12) hJ
    have hp : 0 < 4096 ^ (i / 12) := Nat.pow_pos (by decide)
    have hq : leE s % 2 ^ i / 4096 ^ (i / 12) < 2 ^ (i % 12) := (Nat.div_lt_iff_lt_mul hp).2 (by rw [Nat.mul_comm, ← e2]; exact hY)
    have hbr : b * 2 ^ (i % 12) ≤ 1 * 2 ^ (i % 12) := Nat.mul_le_mul_right _ hb
    split
    · next e =>
      rw [← e, hg, Nat.mod_eq_of_lt (show b * 2 ^ (i % 12) < 18446744073709551616 by omega), Nat.mod_eq_of_lt (show leE s % 2 ^ i / 4096 ^ (i / 12) < 4096 by omega), or_add hq]
      have e3 : (leE s % 2 ^ i + 2 ^ i * b) / 4096 ^ (i / 12) = leE s % 2 ^ i / 4096 ^ (i / 12) + b * 2 ^ (i % 12) := by
        conv => lhs; rw [show 2 ^ i * b = 4096 ^ (i / 12) * (b * 2 ^ (i % 12)) by rw [e2, Nat.mul_assoc, Nat.mul_comm b]]
        rw [Nat.add_mul_div_left _ _ hp]
      rw [e3, Nat.mod_eq_of_lt (show leE s % 2 ^ i / 4096 ^ (i / 12) + b * 2 ^ (i % 12) < 4096 by omega)]
    · next e =>
      rw [h2 j hj]
      have hpj : 0 < 4096 ^ j := Nat.pow_pos (by decide)
      rcases Nat.lt_or_gt_of_ne e with h | h
      · have hle : 2 ^ i * 2 ≤ 4096 ^ j := by
          rw [show (4096 : Nat) ^ j = 2 ^ (12 * j) by rw [Nat.pow_mul], ← Nat.pow_succ]
          exact Nat.pow_le_pow_right (by decide) (by omega)
        have hb2 : 2 ^ i * b ≤ 2 ^ i * 1 := Nat.mul_le_mul_left _ hb
        rw [Nat.div_eq_of_lt (show leE s % 2 ^ i < 4096 ^ j by omega), Nat.div_eq_of_lt (show leE s % 2 ^ i + 2 ^ i * b < 4096 ^ j by omega)]
      · obtain ⟨m, hm⟩ : ∃ m, i / 12 = j + 1 + m := ⟨i / 12 - j - 1, by omega⟩
        have e4 : 2 ^ i * b = 4096 ^ j * (4096 * (4096 ^ m * 2 ^ (i % 12) * b)) := by
          rw [e2, hm, Nat.pow_add, Nat.pow_succ]
          simp only [Nat.mul_assoc]
        rw [e4, Nat.add_mul_div_left _ _ hpj, Nat.add_mul_mod_self_left]
theorem rdE_spec {s : List UInt8} (h : leE s < 5444517870735015415413993718908291383296) : (rdE s).length = 11 ∧ (∀ j, gt (rdE s) j < 4096) ∧ val (rdE s) = leE s := by
  obtain ⟨h1, h2⟩ := readS_spec s (min (8 * s.length) 132) (by omega)
  have e : leE s % 2 ^ (min (8 * s.length) 132) = leE s := by
    apply Nat.mod_eq_of_lt
    by_cases hl : 8 * s.length ≤ 132
    · rw [Nat.min_eq_left hl, Nat.pow_mul]; exact leE_lt s
    · rw [Nat.min_eq_right (by omega)]; exact h
  rw [e] at h2
  have e5 : ∀ j, gt (rdE s) j < 4096 := fun j => by
    by_cases hj : j < 11
    · rw [rdE, h2 j hj]; exact Nat.mod_lt _ (by decide)
    · show gt (readS s (min (8 * s.length) 132)) j < 4096
      rw [digits11 h1 (Nat.not_lt.1 hj)]; decide
  refine ⟨h1, e5, ?_⟩
  rw [val_of (rdE s) (leE s) (fun j hj => h2 j (by rw [rdE] at hj; omega)), rdE, h1, pow11, Nat.mod_eq_of_lt h]
/-! the program's numbers, and the reference's -/
theorem addS_spec {a p : List Nat} (hal : a.length = 11) (hpl : p.length = 11) (ha : ∀ j, gt a j < 4096) (hp : ∀ j, gt p j < 4096) : ∀ i, i ≤ 11 → (addS a p i).length = 11 ∧ (∀ j, gt (addS a p i) j < 8192) ∧ (∀ j, i ≤ j → gt (addS a p i) j = gt a j) ∧ val (addS a p i) = val a + val (p.take i)
  | 0, _ => ⟨hal, fun j => by rw [addS]; exact Nat.lt_trans (ha j) (by decide), fun _ _ => rfl, by simp [addS, val]⟩
  | i + 1, hi => by
    obtain ⟨h1, h2, h3, h4⟩ := addS_spec hal hpl ha hp i (by omega)
    have hg := h3 i (Nat.le_refl _)
    have hai := ha i
    have hpi := hp i
    rw [addS, Nat.mod_eq_of_lt (show gt (addS a p i) i + gt p i < 18446744073709551616 by omega)]
    have hv := val_set (addS a p i) i (gt (addS a p i) i + gt p i) (by omega)
    rw [Nat.add_mul] at hv
    refine ⟨by rw [List.length_set]; exact h1, fun j => ?_, fun j hj => ?_, ?_⟩
    · rw [gt_setN (by omega)]
      split
      · omega
      · exact h2 j
    · rw [gt_setN (by omega), if_neg (by omega)]; exact h3 j (by omega)
    · rw [val_take p i (by omega)]; omega
theorem times_mod (x r0 r1 : Nat) : timesE x r0 r1 % 1361129467683753853853498429727072845819 = x * (r0 + 18446744073709551616 * r1) % 1361129467683753853853498429727072845819 := by
  rw [timesE, fold_mod]
  exact fold_mod (x * (r0 + 18446744073709551616 * r1))
theorem can_0 : Can (List.replicate 11 0) := ⟨rfl, fun j => by unfold gt; rw [List.getD_eq_getElem?_getD, List.getElem?_replicate]; split <;> decide, by decide⟩
theorem acc_eq {r : List Nat} {s : List UInt8} {r0 r1 : Nat} (hr : Can r) (he : val r = r0 + 18446744073709551616 * r1) : ∀ j, Can (accR r s j) ∧ val (accR r s j) % 1361129467683753853853498429727072845819 = accE r0 r1 s j % 1361129467683753853853498429727072845819
  | 0 => ⟨can_0, rfl⟩
  | j + 1 => by
    obtain ⟨h1, h2⟩ := acc_eq (s := s) hr he j
    have hp := pieceE_lt (p := (s.drop (16 * j)).take 16) (by rw [List.length_take]; omega)
    rw [accR, accE]
    obtain ⟨p1, p2, p3⟩ := rdE_spec (s := (s.drop (16 * j)).take 16 ++ [1]) (by
      show pieceE _ < _
      omega)
    generalize hpp : rdE ((s.drop (16 * j)).take 16 ++ [1]) = p at *
    obtain ⟨a1, a2, _, a4⟩ := addS_spec h1.len p1 h1.dig p2 11 (Nat.le_refl _)
    rw [List.take_of_length_le (by omega), p3] at a4
    obtain ⟨b1, b2⟩ := carS_spec a1 (fun j => Nat.lt_of_lt_of_le (a2 j) (by decide))
    obtain ⟨c1, c2, c3⟩ := timI_spec b1.len b1.dig hr.dig hr.len 11 (Nat.le_refl _)
    obtain ⟨d1, d2⟩ := carS_spec c1 (fun j => Nat.lt_of_le_of_lt (c2 j) (by decide))
    refine ⟨d1, ?_⟩
    rw [d2, c3, times_mod, List.take_of_length_le (by rw [b1.len]; omega), Nat.mul_mod, b2, a4, he, ← Nat.mul_mod, Nat.mul_mod, Nat.add_mod, h2, ← Nat.add_mod, ← Nat.mul_mod]
    rfl
theorem and_split {b m x y : Nat} (hb : b < 256) (hm : m < 256) : (b + 256 * x) &&& (m + 256 * y) = (b &&& m) + 256 * (x &&& y) := by
  have h1 : ∀ {a c : Nat}, a < 256 → a + 256 * c = 2 ^ 8 * c + a := fun _ => by omega
  have hbm : b &&& m < 2 ^ 8 := Nat.and_lt_two_pow _ (by omega)
  rw [h1 hb, h1 hm, h1 (show b &&& m < 256 from hbm)]
  apply Nat.eq_of_testBit_eq
  intro i
  rw [Nat.testBit_and, Nat.testBit_two_pow_mul_add _ (by omega), Nat.testBit_two_pow_mul_add _ (by omega), Nat.testBit_two_pow_mul_add _ hbm]
  split <;> rw [Nat.testBit_and]
theorem and255 (b : UInt8) : b.toNat &&& 255 = b.toNat := by
  rw [show (255 : Nat) = 2 ^ 8 - 1 from rfl, Nat.and_two_pow_sub_one_eq_mod]; exact Nat.mod_eq_of_lt b.toNat_lt
theorem of_and {b : UInt8} {m : Nat} : (UInt8.ofNat (b.toNat &&& m)).toNat = b.toNat &&& m := by
  rw [UInt8.toNat_ofNat']
  exact Nat.mod_eq_of_lt (Nat.lt_of_le_of_lt Nat.and_le_left b.toNat_lt)
theorem and_8 (b0 b1 b2 b3 b4 b5 b6 b7 : UInt8) (m0 : Nat) (hm : m0 < 256) : leE [b0, b1, b2, b3, b4, b5, b6, b7] &&& (m0 + 256 * 4503599561310207) = (b0.toNat &&& m0) + 256 * (b1.toNat + 256 * (b2.toNat + 256 * ((b3.toNat &&& 15) + 256 * ((b4.toNat &&& 252) + 256 * (b5.toNat + 256 * (b6.toNat + 256 * (b7.toNat &&& 15))))))) := by
  have t : ∀ b : UInt8, b.toNat < 256 := fun b => b.toNat_lt
  simp only [leE]
  rw [and_split (t _) hm, show (4503599561310207 : Nat) = 255 + 256 * 17592185786367 from by decide, and_split (t _) (by decide), show (17592185786367 : Nat) = 255 + 256 * 68719475727 from by decide, and_split (t _) (by decide), show (68719475727 : Nat) = 15 + 256 * 268435452 from by decide, and_split (t _) (by decide), show (268435452 : Nat) = 252 + 256 * 1048575 from by decide, and_split (t _) (by decide), show (1048575 : Nat) = 255 + 256 * 4095 from by decide, and_split (t _) (by decide), show (4095 : Nat) = 255 + 256 * 15 from by decide, and_split (t _) (by decide), show (15 : Nat) = 15 + 256 * 0 from by decide, and_split (t _) (by decide)]
  simp only [and255, Nat.mul_zero, Nat.add_zero, Nat.and_zero]
theorem cutB {l : List UInt8} {n : Nat} (h : l.length = n + 4) : ∃ a b c d r, l = a :: b :: c :: d :: r ∧ r.length = n := by
  match l, h with
  | a :: b :: c :: d :: r, h => exact ⟨a, b, c, d, r, rfl, by simpa using h⟩
theorem msk_list (b0 b1 b2 b3 b4 b5 b6 b7 b8 b9 b10 b11 b12 b13 b14 b15 : UInt8) (t : List UInt8) : mskS (b0 :: b1 :: b2 :: b3 :: b4 :: b5 :: b6 :: b7 :: b8 :: b9 :: b10 :: b11 :: b12 :: b13 :: b14 :: b15 :: t) 16 = [b0, b1, b2, UInt8.ofNat (b3.toNat &&& 15), UInt8.ofNat (b4.toNat &&& 252), b5, b6, UInt8.ofNat (b7.toNat &&& 15), UInt8.ofNat (b8.toNat &&& 252), b9, b10, UInt8.ofNat (b11.toNat &&& 15), UInt8.ofNat (b12.toNat &&& 252), b13, b14, UInt8.ofNat (b15.toNat &&& 15)] := by
  have h0 : mskS (b0 :: b1 :: b2 :: b3 :: b4 :: b5 :: b6 :: b7 :: b8 :: b9 :: b10 :: b11 :: b12 :: b13 :: b14 :: b15 :: t) 0 = [b0, b1, b2, b3, b4, b5, b6, b7, b8, b9, b10, b11, b12, b13, b14, b15] := rfl
  have h1 : mskS (b0 :: b1 :: b2 :: b3 :: b4 :: b5 :: b6 :: b7 :: b8 :: b9 :: b10 :: b11 :: b12 :: b13 :: b14 :: b15 :: t) 1 = [b0, b1, b2, b3, b4, b5, b6, b7, b8, b9, b10, b11, b12, b13, b14, b15] := by rw [mskS, if_neg (by decide), if_neg (by decide), h0]
  have h2 : mskS (b0 :: b1 :: b2 :: b3 :: b4 :: b5 :: b6 :: b7 :: b8 :: b9 :: b10 :: b11 :: b12 :: b13 :: b14 :: b15 :: t) 2 = [b0, b1, b2, b3, b4, b5, b6, b7, b8, b9, b10, b11, b12, b13, b14, b15] := by rw [mskS, if_neg (by decide), if_neg (by decide), h1]
  have h3 : mskS (b0 :: b1 :: b2 :: b3 :: b4 :: b5 :: b6 :: b7 :: b8 :: b9 :: b10 :: b11 :: b12 :: b13 :: b14 :: b15 :: t) 3 = [b0, b1, b2, b3, b4, b5, b6, b7, b8, b9, b10, b11, b12, b13, b14, b15] := by rw [mskS, if_neg (by decide), if_neg (by decide), h2]
  have h4 : mskS (b0 :: b1 :: b2 :: b3 :: b4 :: b5 :: b6 :: b7 :: b8 :: b9 :: b10 :: b11 :: b12 :: b13 :: b14 :: b15 :: t) 4 = [b0, b1, b2, UInt8.ofNat (b3.toNat &&& 15), b4, b5, b6, b7, b8, b9, b10, b11, b12, b13, b14, b15] := by rw [mskS, if_pos (by decide), h3]; rfl
  have h5 : mskS (b0 :: b1 :: b2 :: b3 :: b4 :: b5 :: b6 :: b7 :: b8 :: b9 :: b10 :: b11 :: b12 :: b13 :: b14 :: b15 :: t) 5 = [b0, b1, b2, UInt8.ofNat (b3.toNat &&& 15), UInt8.ofNat (b4.toNat &&& 252), b5, b6, b7, b8, b9, b10, b11, b12, b13, b14, b15] := by rw [mskS, if_neg (by decide), if_pos (by decide), h4]; rfl
  have h6 : mskS (b0 :: b1 :: b2 :: b3 :: b4 :: b5 :: b6 :: b7 :: b8 :: b9 :: b10 :: b11 :: b12 :: b13 :: b14 :: b15 :: t) 6 = [b0, b1, b2, UInt8.ofNat (b3.toNat &&& 15), UInt8.ofNat (b4.toNat &&& 252), b5, b6, b7, b8, b9, b10, b11, b12, b13, b14, b15] := by rw [mskS, if_neg (by decide), if_neg (by decide), h5]
  have h7 : mskS (b0 :: b1 :: b2 :: b3 :: b4 :: b5 :: b6 :: b7 :: b8 :: b9 :: b10 :: b11 :: b12 :: b13 :: b14 :: b15 :: t) 7 = [b0, b1, b2, UInt8.ofNat (b3.toNat &&& 15), UInt8.ofNat (b4.toNat &&& 252), b5, b6, b7, b8, b9, b10, b11, b12, b13, b14, b15] := by rw [mskS, if_neg (by decide), if_neg (by decide), h6]
  have h8 : mskS (b0 :: b1 :: b2 :: b3 :: b4 :: b5 :: b6 :: b7 :: b8 :: b9 :: b10 :: b11 :: b12 :: b13 :: b14 :: b15 :: t) 8 = [b0, b1, b2, UInt8.ofNat (b3.toNat &&& 15), UInt8.ofNat (b4.toNat &&& 252), b5, b6, UInt8.ofNat (b7.toNat &&& 15), b8, b9, b10, b11, b12, b13, b14, b15] := by rw [mskS, if_pos (by decide), h7]; rfl
  have h9 : mskS (b0 :: b1 :: b2 :: b3 :: b4 :: b5 :: b6 :: b7 :: b8 :: b9 :: b10 :: b11 :: b12 :: b13 :: b14 :: b15 :: t) 9 = [b0, b1, b2, UInt8.ofNat (b3.toNat &&& 15), UInt8.ofNat (b4.toNat &&& 252), b5, b6, UInt8.ofNat (b7.toNat &&& 15), UInt8.ofNat (b8.toNat &&& 252), b9, b10, b11, b12, b13, b14, b15] := by rw [mskS, if_neg (by decide), if_pos (by decide), h8]; rfl
  have h10 : mskS (b0 :: b1 :: b2 :: b3 :: b4 :: b5 :: b6 :: b7 :: b8 :: b9 :: b10 :: b11 :: b12 :: b13 :: b14 :: b15 :: t) 10 = [b0, b1, b2, UInt8.ofNat (b3.toNat &&& 15), UInt8.ofNat (b4.toNat &&& 252), b5, b6, UInt8.ofNat (b7.toNat &&& 15), UInt8.ofNat (b8.toNat &&& 252), b9, b10, b11, b12, b13, b14, b15] := by rw [mskS, if_neg (by decide), if_neg (by decide), h9]
  have h11 : mskS (b0 :: b1 :: b2 :: b3 :: b4 :: b5 :: b6 :: b7 :: b8 :: b9 :: b10 :: b11 :: b12 :: b13 :: b14 :: b15 :: t) 11 = [b0, b1, b2, UInt8.ofNat (b3.toNat &&& 15), UInt8.ofNat (b4.toNat &&& 252), b5, b6, UInt8.ofNat (b7.toNat &&& 15), UInt8.ofNat (b8.toNat &&& 252), b9, b10, b11, b12, b13, b14, b15] := by rw [mskS, if_neg (by decide), if_neg (by decide), h10]
  have h12 : mskS (b0 :: b1 :: b2 :: b3 :: b4 :: b5 :: b6 :: b7 :: b8 :: b9 :: b10 :: b11 :: b12 :: b13 :: b14 :: b15 :: t) 12 = [b0, b1, b2, UInt8.ofNat (b3.toNat &&& 15), UInt8.ofNat (b4.toNat &&& 252), b5, b6, UInt8.ofNat (b7.toNat &&& 15), UInt8.ofNat (b8.toNat &&& 252), b9, b10, UInt8.ofNat (b11.toNat &&& 15), b12, b13, b14, b15] := by rw [mskS, if_pos (by decide), h11]; rfl
  have h13 : mskS (b0 :: b1 :: b2 :: b3 :: b4 :: b5 :: b6 :: b7 :: b8 :: b9 :: b10 :: b11 :: b12 :: b13 :: b14 :: b15 :: t) 13 = [b0, b1, b2, UInt8.ofNat (b3.toNat &&& 15), UInt8.ofNat (b4.toNat &&& 252), b5, b6, UInt8.ofNat (b7.toNat &&& 15), UInt8.ofNat (b8.toNat &&& 252), b9, b10, UInt8.ofNat (b11.toNat &&& 15), UInt8.ofNat (b12.toNat &&& 252), b13, b14, b15] := by rw [mskS, if_neg (by decide), if_pos (by decide), h12]; rfl
  have h14 : mskS (b0 :: b1 :: b2 :: b3 :: b4 :: b5 :: b6 :: b7 :: b8 :: b9 :: b10 :: b11 :: b12 :: b13 :: b14 :: b15 :: t) 14 = [b0, b1, b2, UInt8.ofNat (b3.toNat &&& 15), UInt8.ofNat (b4.toNat &&& 252), b5, b6, UInt8.ofNat (b7.toNat &&& 15), UInt8.ofNat (b8.toNat &&& 252), b9, b10, UInt8.ofNat (b11.toNat &&& 15), UInt8.ofNat (b12.toNat &&& 252), b13, b14, b15] := by rw [mskS, if_neg (by decide), if_neg (by decide), h13]
  have h15 : mskS (b0 :: b1 :: b2 :: b3 :: b4 :: b5 :: b6 :: b7 :: b8 :: b9 :: b10 :: b11 :: b12 :: b13 :: b14 :: b15 :: t) 15 = [b0, b1, b2, UInt8.ofNat (b3.toNat &&& 15), UInt8.ofNat (b4.toNat &&& 252), b5, b6, UInt8.ofNat (b7.toNat &&& 15), UInt8.ofNat (b8.toNat &&& 252), b9, b10, UInt8.ofNat (b11.toNat &&& 15), UInt8.ofNat (b12.toNat &&& 252), b13, b14, b15] := by rw [mskS, if_neg (by decide), if_neg (by decide), h14]
  have h16 : mskS (b0 :: b1 :: b2 :: b3 :: b4 :: b5 :: b6 :: b7 :: b8 :: b9 :: b10 :: b11 :: b12 :: b13 :: b14 :: b15 :: t) 16 = [b0, b1, b2, UInt8.ofNat (b3.toNat &&& 15), UInt8.ofNat (b4.toNat &&& 252), b5, b6, UInt8.ofNat (b7.toNat &&& 15), UInt8.ofNat (b8.toNat &&& 252), b9, b10, UInt8.ofNat (b11.toNat &&& 15), UInt8.ofNat (b12.toNat &&& 252), b13, b14, UInt8.ofNat (b15.toNat &&& 15)] := by rw [mskS, if_pos (by decide), h15]; rfl
  exact h16
theorem msk_val {key : List UInt8} (h : key.length = 32) : leE (mskS key 16) = rE0 key + 18446744073709551616 * rE1 key := by
  obtain ⟨b0, b1, b2, b3, t0, rfl, h0⟩ := cutB (n := 28) h
  obtain ⟨b4, b5, b6, b7, t1, rfl, h1⟩ := cutB (n := 24) h0
  obtain ⟨b8, b9, b10, b11, t2, rfl, h2⟩ := cutB (n := 20) h1
  obtain ⟨b12, b13, b14, b15, t, rfl, h3⟩ := cutB (n := 16) h2
  have e0 : rE0 (b0 :: b1 :: b2 :: b3 :: b4 :: b5 :: b6 :: b7 :: b8 :: b9 :: b10 :: b11 :: b12 :: b13 :: b14 :: b15 :: t) = leE [b0, b1, b2, b3, b4, b5, b6, b7] &&& (255 + 256 * 4503599561310207) := rfl
  have e1 : rE1 (b0 :: b1 :: b2 :: b3 :: b4 :: b5 :: b6 :: b7 :: b8 :: b9 :: b10 :: b11 :: b12 :: b13 :: b14 :: b15 :: t) = leE [b8, b9, b10, b11, b12, b13, b14, b15] &&& (252 + 256 * 4503599561310207) := rfl
  rw [msk_list, e0, e1, and_8 _ _ _ _ _ _ _ _ _ (by decide), and_8 _ _ _ _ _ _ _ _ _ (by decide)]
  simp only [leE, of_and, and255]
  clear e0 e1 h h0 h1 h2 h3
  generalize b3.toNat &&& 15 = y3
  generalize b4.toNat &&& 252 = y4
  generalize b7.toNat &&& 15 = y7
  generalize b8.toNat &&& 252 = y8
  generalize b11.toNat &&& 15 = y11
  generalize b12.toNat &&& 252 = y12
  generalize b15.toNat &&& 15 = y15
  generalize b0.toNat = y0
  generalize b1.toNat = y1
  generalize b2.toNat = y2
  generalize b5.toNat = y5
  generalize b6.toNat = y6
  generalize b9.toNat = y9
  generalize b10.toNat = y10
  generalize b13.toNat = y13
  generalize b14.toNat = y14
  omega
theorem leB_get (x : Nat) : ∀ {n j : Nat}, j < n → gt (leB x n) j = UInt8.ofNat (byt x j)
  | n + 1, j, h => by
    unfold gt
    rw [leB, List.getD_eq_getElem?_getD, List.getElem?_append, leB_len]
    split
    · next h2 =>
      have := leB_get x h2
      unfold gt at this
      rw [List.getD_eq_getElem?_getD] at this
      exact this
    · next h2 =>
      obtain rfl : j = n := by omega
      rw [Nat.sub_self, byt, Nat.pow_mul]
      apply UInt8.toNat_inj.1
      simp
theorem six_get {z j : Nat} (h : j < 16) : gt (sixE z) j = UInt8.ofNat (byt z j) := by
  unfold sixE
  have e : gt (leB (z % 18446744073709551616) 8 ++ leB (z / 18446744073709551616 % 18446744073709551616) 8) j = if j < 8 then gt (leB (z % 18446744073709551616) 8) j else gt (leB (z / 18446744073709551616 % 18446744073709551616) 8) (j - 8) := by
    unfold gt
    rw [List.getD_eq_getElem?_getD, List.getElem?_append, leB_len]
    split <;> rw [List.getD_eq_getElem?_getD]
  rw [e]
  split
  · next h2 =>
    rw [leB_get _ h2]
    unfold byt
    congr 1
    rcases (by omega : j = 0 ∨ j = 1 ∨ j = 2 ∨ j = 3 ∨ j = 4 ∨ j = 5 ∨ j = 6 ∨ j = 7) with rfl | rfl | rfl | rfl | rfl | rfl | rfl | rfl <;> simp only [Nat.reducePow] <;> omega
  · next h2 =>
    rw [leB_get _ (by omega)]
    unfold byt
    congr 1
    rcases (by omega : j = 8 ∨ j = 9 ∨ j = 10 ∨ j = 11 ∨ j = 12 ∨ j = 13 ∨ j = 14 ∨ j = 15) with rfl | rfl | rfl | rfl | rfl | rfl | rfl | rfl <;> simp only [Nat.reducePow, Nat.reduceSub] <;> omega
theorem six_len (z : Nat) : (sixE z).length = 16 := by rw [sixE, List.length_append, leB_len, leB_len]
theorem word_23 {key : List UInt8} (h : key.length = 32) : wordK key 2 + 18446744073709551616 * wordK key 3 = leE (key.drop 16) := by
  have e : key.drop 16 = (key.drop 16).take 8 ++ (key.drop 24).take 8 := by
    rw [List.take_of_length_le (l := key.drop 24) (by rw [List.length_drop]; omega), show (24 : Nat) = 16 + 8 from rfl, ← List.drop_drop, List.take_append_drop]
  rw [e, leE_app, List.length_take, List.length_drop, h]
  rfl
theorem gt_extB {a b : List UInt8} (h : a.length = b.length) (hh : ∀ j < a.length, gt a j = gt b j) : a = b := by
  apply List.ext_getElem h
  intro i h1 h2
  have := hh i h1
  unfold gt at this
  simpa [List.getD_eq_getElem?_getD, h1, h2] using this
/-- a tag's bytes: what is gathered, below the prime, and the key's second half -/
theorem tag_bytes {key s : List UInt8} (h : key.length = 32) {j : Nat} (hj : j < 16) : gt (tagE key s) j = UInt8.ofNat (byt (accE (rE0 key) (rE1 key) s ((s.length + 15) / 16) % 1361129467683753853853498429727072845819 + leE (key.drop 16)) j) := by
  have ha := accE_lt (s := s) (rE0_lt key) (rE1_lt key) ((s.length + 15) / 16)
  unfold tagE
  generalize accE (rE0 key) (rE1 key) s ((s.length + 15) / 16) = a at *
  rw [six_get hj, endE, word_23 h]
  congr 1
  have hf := fold_mod a
  have hfl : foldE a < 1361129467683753853853498429727072845824 := by unfold foldE; omega
  generalize foldE a = f at *
  rw [← hf]
  split
  · next hc =>
    have h4 : 4 ≤ (f + 5) / 340282366920938463463374607431768211456 := Nat.lt_of_lt_of_le hc (Nat.mod_le _ _)
    have h5 : 1361129467683753853853498429727072845819 ≤ f := by omega
    have h6 : f % 1361129467683753853853498429727072845819 = f - 1361129467683753853853498429727072845819 := by omega
    rw [h6, show f + 5 + leE (key.drop 16) = f - 1361129467683753853853498429727072845819 + leE (key.drop 16) + 340282366920938463463374607431768211456 * 4 by omega]
    exact byt_add_mul _ 4 j hj
  · next hc => rw [show f % 1361129467683753853853498429727072845819 = f by omega]
theorem tagE_len (key s : List UInt8) : (tagE key s).length = 16 := six_len _
theorem tag_eq {key s : List UInt8} (h : key.length = 32) : rtagE key s = tagE key s := by
  have hm : leE (mskS key 16) < 5444517870735015415413993718908291383296 := by
    rw [msk_val h]
    have h0 := rE0_lt key
    have h1 := rE1_lt key
    omega
  obtain ⟨r1, r2, r3⟩ := rdE_spec hm
  have hr : Can (rdE (mskS key 16)) := ⟨r1, r2, by rw [r3, msk_val h]; have h0 := rE0_lt key; have h1 := rE1_lt key; omega⟩
  obtain ⟨a1, a2⟩ := acc_eq (s := s) hr (r3.trans (msk_val h)) ((s.length + 15) / 16)
  obtain ⟨b1, b2⟩ := carS_spec a1.len (fun j => Nat.lt_of_lt_of_le (a1.dig j) (by decide))
  obtain ⟨c1, c2, c3⟩ := belS_spec b1
  obtain ⟨d1, d2, d3⟩ := lowS_spec c2 (key.drop 16) 16 (Nat.le_refl _)
  refine gt_extB (by rw [tagE_len]; exact d1) fun j hj => ?_
  have hj' : j < 16 := by rw [show (rtagE key s).length = 16 from d1] at hj; exact hj
  rw [tag_bytes h hj', show gt (rtagE key s) j = _ from d3 j hj', c3, b2, a2]


theorem Tag_eq (key s : List UInt8) : RTagE key s = TagE key s := by
  unfold RTagE TagE
  split
  · next h => rw [tag_eq h]
  · rfl

end Go.Proofs.YthbpjjlinebooaaDoor

