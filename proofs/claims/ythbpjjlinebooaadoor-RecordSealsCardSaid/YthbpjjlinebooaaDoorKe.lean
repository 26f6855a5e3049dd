/- Lemmas for the proofs of this seat: no statement of the seat is claimed here. -/
import Derived.Test.YthbpjjlinebooaaDoorKd
import Derived.Test.YthbpjjlinebooaaDoorKc
set_option linter.all false

namespace Go.Proofs.YthbpjjlinebooaaDoor
open Go Pw
set_option maxRecDepth 20000
set_option maxHeartbeats 4000000

theorem or_sh {a b : Nat} (ha : a < 18446744073709551616) : a / 2 ^ 2 ||| b * 2 ^ 62 % 18446744073709551616 = a / 4 + b % 4 * 4611686018427387904 := by
  have h1 : b * 2 ^ 62 % 18446744073709551616 = 2 ^ 62 * (b % 4) := by omega
  have h2 := Nat.two_pow_add_eq_or_of_lt (i := 62) (b := a / 2 ^ 2) (by omega) (b % 4)
  rw [h1, Nat.or_comm, ← h2]; omega
theorem and_n (a : Nat) : a ^^^ (a &&& 3) = a / 4 * 4 := by
  have h : a / 4 * 4 = (a >>> 2) <<< 2 := by rw [Nat.shiftRight_eq_div_pow, Nat.shiftLeft_eq]
  rw [h]; apply Nat.eq_of_testBit_eq; intro i
  rw [show (3 : Nat) = 2 ^ 2 - 1 from rfl]
  simp only [Nat.testBit_xor, Nat.testBit_and, Nat.testBit_shiftLeft, Nat.testBit_shiftRight, Nat.testBit_two_pow_sub_one]
  by_cases hi : i < 2
  · have : ¬ 2 ≤ i := by omega
    simp [hi, this]
  · have h2 : 2 ≤ i := by omega
    simp [hi, h2]
theorem t_low {x r0 r1 : Nat} (hx : x < 10889035741470030830827987437816582766592) (h0 : r0 < 1152921504606846976) (h1 : r1 < 1152921504606846976) : x * (r0 + 18446744073709551616 * r1) < 463168356949264781694283940034751631413079938662562256157830336031652518559744 := by
  calc x * (r0 + 18446744073709551616 * r1) ≤ 10889035741470030830827987437816582766592 * (r0 + 18446744073709551616 * r1) := Nat.mul_le_mul_right _ (by omega)
    _ < _ := by omega
theorem t_fin {w w0 w1 w2 w3 w4 : Nat} (k0 : w0 < 18446744073709551616) (k1 : w1 < 18446744073709551616) (k2 : w2 < 18446744073709551616) (k3 : w3 < 18446744073709551616) (k4 : w4 < 18446744073709551616) (k5 : w0 + 18446744073709551616 * w1 + 340282366920938463463374607431768211456 * w2 + 6277101735386680763835789423207666416102355444464034512896 * w3 + 115792089237316195423570985008687907853269984665640564039457584007913129639936 * w4 = w) : w0 + 18446744073709551616 * w1 + 340282366920938463463374607431768211456 * (w2 &&& 3) + ((w2 ^^^ (w2 &&& 3)) + 18446744073709551616 * w3 + 340282366920938463463374607431768211456 * w4) + ((w2 / 2 ^ 2 ||| w3 * 2 ^ 62 % 18446744073709551616) + 18446744073709551616 * (w3 / 2 ^ 2 ||| w4 * 2 ^ 62 % 18446744073709551616) + 340282366920938463463374607431768211456 * (w4 / 2 ^ 2)) = w % 1361129467683753853853498429727072845824 + 5 * (w / 1361129467683753853853498429727072845824) := by
  rw [and_n, and3, or_sh k2, or_sh k3]; omega
abbrev Lq (p w c : Nat) : Nat := ((p % 18446744073709551616 + w + 0) % 18446744073709551616 + c + 0) % 18446744073709551616
abbrev H0 (p w : Nat) : Nat := (p / 18446744073709551616 + (p % 18446744073709551616 + w + 0) / 18446744073709551616) % 18446744073709551616 + ((p % 18446744073709551616 + w + 0) % 18446744073709551616 + 0 + 0) / 18446744073709551616
abbrev H1 (p w c : Nat) : Nat := ((p / 18446744073709551616 + (p % 18446744073709551616 + w + 0) / 18446744073709551616) % 18446744073709551616 + ((p % 18446744073709551616 + w + 0) % 18446744073709551616 + c + 0) / 18446744073709551616) % 18446744073709551616
theorem lh0 {p w : Nat} (hp : p ≤ 340282366920938463426481119284349108225) (hw : w < 18446744073709551616) : Lq p w 0 + 18446744073709551616 * H0 p w = p + w ∧ Lq p w 0 < 18446744073709551616 ∧ H0 p w < 18446744073709551616 := by
  refine ⟨?_, ?_, ?_⟩ <;> simp only [Lq, H0] <;> omega
theorem lh1 {p w c : Nat} (hp : p ≤ 340282366920938463426481119284349108225) (hw : w < 18446744073709551616) (hc : c < 18446744073709551616) : Lq p w c + 18446744073709551616 * H1 p w c = p + w + c ∧ Lq p w c < 18446744073709551616 ∧ H1 p w c < 18446744073709551616 := by
  refine ⟨?_, ?_, ?_⟩ <;> simp only [Lq, H1] <;> omega
theorem pb {a b : Nat} (ha : a < 18446744073709551616) (hb : b < 18446744073709551616) : a * b ≤ 340282366920938463426481119284349108225 := Nat.mul_le_mul (Nat.le_sub_one_of_lt ha) (Nat.le_sub_one_of_lt hb)
theorem t_cut {p00 p01 p10 p11 p20 p21 : Nat} (q00 : p00 ≤ 340282366920938463426481119284349108225) (q01 : p01 ≤ 340282366920938463426481119284349108225) (q10 : p10 ≤ 340282366920938463426481119284349108225) (q11 : p11 ≤ 340282366920938463426481119284349108225) (q20 : p20 ≤ 340282366920938463426481119284349108225) (q21 : p21 ≤ 340282366920938463426481119284349108225) {w : Nat}
    (hw : p00 + 18446744073709551616 * p01 + 18446744073709551616 * p10 + 340282366920938463463374607431768211456 * p11 + 340282366920938463463374607431768211456 * p20 + 6277101735386680763835789423207666416102355444464034512896 * p21 = w) :
    Lq p00 0 0 < 18446744073709551616 ∧ Lq p10 (Lq p01 0 (H0 p00 0)) 0 < 18446744073709551616 ∧ Lq p20 (Lq p11 (H1 p01 0 (H0 p00 0)) (H0 p10 (Lq p01 0 (H0 p00 0)))) 0 < 18446744073709551616 ∧
    Lq p21 (H1 p11 (H1 p01 0 (H0 p00 0)) (H0 p10 (Lq p01 0 (H0 p00 0)))) (H0 p20 (Lq p11 (H1 p01 0 (H0 p00 0)) (H0 p10 (Lq p01 0 (H0 p00 0))))) < 18446744073709551616 ∧
    H1 p21 (H1 p11 (H1 p01 0 (H0 p00 0)) (H0 p10 (Lq p01 0 (H0 p00 0)))) (H0 p20 (Lq p11 (H1 p01 0 (H0 p00 0)) (H0 p10 (Lq p01 0 (H0 p00 0))))) < 18446744073709551616 ∧
    Lq p00 0 0 + 18446744073709551616 * Lq p10 (Lq p01 0 (H0 p00 0)) 0 + 340282366920938463463374607431768211456 * Lq p20 (Lq p11 (H1 p01 0 (H0 p00 0)) (H0 p10 (Lq p01 0 (H0 p00 0)))) 0 +
    6277101735386680763835789423207666416102355444464034512896 * Lq p21 (H1 p11 (H1 p01 0 (H0 p00 0)) (H0 p10 (Lq p01 0 (H0 p00 0)))) (H0 p20 (Lq p11 (H1 p01 0 (H0 p00 0)) (H0 p10 (Lq p01 0 (H0 p00 0))))) +
    115792089237316195423570985008687907853269984665640564039457584007913129639936 * H1 p21 (H1 p11 (H1 p01 0 (H0 p00 0)) (H0 p10 (Lq p01 0 (H0 p00 0)))) (H0 p20 (Lq p11 (H1 p01 0 (H0 p00 0)) (H0 p10 (Lq p01 0 (H0 p00 0))))) = w := by
  obtain ⟨a1, a2, a3⟩ := lh0 q00 (w := 0) (by decide)
  generalize Lq p00 0 0 = w0 at *
  generalize H0 p00 0 = c00 at *
  obtain ⟨b1, b2, b3⟩ := lh1 q01 (w := 0) (by decide) a3
  generalize Lq p01 0 c00 = w1 at *
  generalize H1 p01 0 c00 = w2 at *
  obtain ⟨d1, d2, d3⟩ := lh0 q10 b2
  generalize Lq p10 w1 0 = v1 at *
  generalize H0 p10 w1 = c10 at *
  obtain ⟨e1, e2, e3⟩ := lh1 q11 b3 d3
  generalize Lq p11 w2 c10 = v2 at *
  generalize H1 p11 w2 c10 = w3 at *
  obtain ⟨f1, f2, f3⟩ := lh0 q20 e2
  generalize Lq p20 v2 0 = u2 at *
  generalize H0 p20 v2 = c20 at *
  obtain ⟨g1, g2, g3⟩ := lh1 q21 e3 f3
  generalize Lq p21 w3 c20 = u3 at *
  generalize H1 p21 w3 c20 = u4 at *
  clear q00 q01 q10 q11 q20 q21
  omega
theorem t_sum {x r0 r1 : Nat} (hx : x < 10889035741470030830827987437816582766592) : x % 18446744073709551616 * r0 + 18446744073709551616 * (x % 18446744073709551616 * r1) + 18446744073709551616 * (x / 18446744073709551616 % 18446744073709551616 * r0) + 340282366920938463463374607431768211456 * (x / 18446744073709551616 % 18446744073709551616 * r1) + 340282366920938463463374607431768211456 * (x / 340282366920938463463374607431768211456 % 18446744073709551616 * r0) + 6277101735386680763835789423207666416102355444464034512896 * (x / 340282366920938463463374607431768211456 % 18446744073709551616 * r1) = x * (r0 + 18446744073709551616 * r1) := by
  have h := dd x
  have hh : x = x % 18446744073709551616 + 18446744073709551616 * (x / 18446744073709551616 % 18446744073709551616) + 340282366920938463463374607431768211456 * (x / 340282366920938463463374607431768211456 % 18446744073709551616) := by omega
  generalize x % 18446744073709551616 = a at *
  generalize x / 18446744073709551616 % 18446744073709551616 = b at *
  generalize x / 340282366920938463463374607431768211456 % 18446744073709551616 = d at *
  rw [hh, Nat.mul_add, Nat.add_mul, Nat.add_mul, Nat.add_mul, Nat.add_mul]
  have e1 : 18446744073709551616 * b * r0 = 18446744073709551616 * (b * r0) := by rw [Nat.mul_assoc]
  have e2 : 340282366920938463463374607431768211456 * d * r0 = 340282366920938463463374607431768211456 * (d * r0) := by rw [Nat.mul_assoc]
  have e3 : a * (18446744073709551616 * r1) = 18446744073709551616 * (a * r1) := by rw [Nat.mul_left_comm]
  have e4 : 18446744073709551616 * b * (18446744073709551616 * r1) = 340282366920938463463374607431768211456 * (b * r1) := by rw [Nat.mul_assoc, Nat.mul_left_comm b, ← Nat.mul_assoc]
  have e5 : 340282366920938463463374607431768211456 * d * (18446744073709551616 * r1) = 6277101735386680763835789423207666416102355444464034512896 * (d * r1) := by rw [Nat.mul_assoc, Nat.mul_left_comm d, ← Nat.mul_assoc]
  rw [e1, e2, e3, e4, e5]; omega
def timesE (x r0 r1 : Nat) : Nat := foldE (x * (r0 + 18446744073709551616 * r1) % 1361129467683753853853498429727072845824 + 5 * (x * (r0 + 18446744073709551616 * r1) / 1361129467683753853853498429727072845824))
theorem times_spec (x r0 r1 : Nat) (hx : x < 10889035741470030830827987437816582766592) (h0 : r0 < 1152921504606846976) (h1 : r1 < 1152921504606846976) :
    Sat Tryd.prog 95 [.agg (numV x).toArray, .agg #[.int .u64 r0, .int .u64 r1]] [] (fun u L' => u = .agg (numV (timesE x r0 r1)).toArray ∧ L' = []) := by
  all_goals
    refine Sat.enter Tryd.func95 rfl Tryd.ntmps95 rfl (fun c R => ?_)
    try simp only [List.cons_append, List.nil_append]
    repeat' (first
      | exact Fini.mk ⟨by rw [t_fin k0 k1 k2 k3 k4 k5]; rfl, rfl⟩
      | (rename_i b1 b2 b3; refine T.cutt 0 (fun s : Nat × Nat × Nat × Nat × Nat => [(5, .pointer (some ⟨b, 0, none⟩)), (4, .pointer (some ⟨b3, 0, none⟩))]) (fun s => [row 169 b [vU64 s.1, vU64 s.2.1, vU64 s.2.2.1, vU64 s.2.2.2.1, vU64 s.2.2.2.2], row 159 b3 [.int .u64 0, .int .u64 0, .int .u64 0]] ++ R) (fun s => s.1 < 18446744073709551616 ∧ s.2.1 < 18446744073709551616 ∧ s.2.2.1 < 18446744073709551616 ∧ s.2.2.2.1 < 18446744073709551616 ∧ s.2.2.2.2 < 18446744073709551616 ∧ s.1 + 18446744073709551616 * s.2.1 + 340282366920938463463374607431768211456 * s.2.2.1 + 6277101735386680763835789423207666416102355444464034512896 * s.2.2.2.1 + 115792089237316195423570985008687907853269984665640564039457584007913129639936 * s.2.2.2.2 = x * (r0 + 18446744073709551616 * r1)) ?_ ?_; rotate_left; rintro ⟨w0, w1, w2, w3, w4⟩ g ⟨k0, k1, k2, k3, k4, k5⟩; dsimp only at k0 k1 k2 k3 k4 k5 ⊢; have a1 := and3 w2; have a2 := and_n w2; have a3 := or_sh (b := w3) k2; have a4 := or_sh (b := w4) k3; have a5 := t_low hx h0 h1; rw [← k5] at a5; simp only [List.cons_append, List.nil_append])
      | (dsimp only; exact t_cut (pb (Nat.mod_lt _ (by decide)) (by omega)) (pb (Nat.mod_lt _ (by decide)) (by omega)) (pb (Nat.mod_lt _ (by decide)) (by omega)) (pb (Nat.mod_lt _ (by decide)) (by omega)) (pb (Nat.mod_lt _ (by decide)) (by omega)) (pb (Nat.mod_lt _ (by decide)) (by omega)) (t_sum hx))
      | refine T.unb 0 3 ?_
      | refine T.unb 2 2 ?_
      | (refine TQ.cn (_, _, _, _, _) rfl ⟨rfl, rfl, trivial⟩ ?_ (Ent.imp (by repeat first | exact Imp.refl _ | (apply Imp.pull; focus ((repeat first | exact Del.head _ _ | apply Del.tail); done)) | apply Imp.drop)))
      | refine T.pl 20 [2, 4, 5, 6] (.d 0 (.d 1 (.b2 2 (.d 3 (.n 4 (.n 5 (.n 6 .fin)))) 3 (.n 2 (.n 4 (.n 5 (.n 6 .fin))))))) ?_
      | refine And.intro (fun hc => ?_) (fun hc => ?_)
      | refine And.intro ?_ ?_
      | intro b
      | refine stp ?_
      | refine TQ.finC ?_
      | refine TQ.finC2 ?_
      | refine TQ.finC3 ?_
      | refine ⟨fun hc => ?_, fun hc => ?_⟩
      | refine Ei.f ?_
      | refine ⟨?_, ?_⟩
      | intro b
      | omega
      | (dsimp only; omega)
      | omega
      | (dsimp only; omega)
      | omega
      | (dsimp only; omega)
      | omega
      | (dsimp only; omega)
      | fail)

end Go.Proofs.YthbpjjlinebooaaDoor


namespace Go.Proofs.YthbpjjlinebooaaDoor
open Go Pw
set_option maxRecDepth 20000
set_option maxHeartbeats 4000000

def qh (a b c d r1 r2 : Nat) (ys : List Nat) : List Nat :=
  let y1 := ys.set a ((gt ys a + gt ys b) % 4294967296)
  let y2 := y1.set d (rotE (gt y1 d ^^^ gt y1 a) r1)
  let y3 := y2.set c ((gt y2 c + gt y2 d) % 4294967296)
  y3.set b (rotE (gt y3 b ^^^ gt y3 c) r2)
instance {x k : Nat} [h : Lt32 x] : Lt32 (rotE x k) := ⟨rotE_lt h.h⟩
instance {a b c d r1 r2 : Nat} {ys : List Nat} [h : B32 ys] : B32 (qh a b c d r1 r2 ys) := by unfold qh; infer_instance
instance {a b c d r1 r2 n : Nat} {ys : List Nat} [h : Ln ys n] : Ln (qh a b c d r1 r2 ys) n := by unfold qh; infer_instance
/-- Which words are mixed. -/
def qsE : List (Nat × Nat × Nat × Nat) := [(0, 4, 8, 12), (1, 5, 9, 13), (2, 6, 10, 14), (3, 7, 11, 15), (0, 5, 10, 15), (1, 6, 11, 12), (2, 7, 8, 13), (3, 4, 9, 14)]
abbrev qf (q : Nat × Nat × Nat × Nat) : List Value := [vU8 q.1, vU8 q.2.1, vU8 q.2.2.1, vU8 q.2.2.2]
instance : FLen qf (no_index 4) := ⟨fun _ => rfl⟩
theorem qs_lt (i : Nat) : (gt qsE i).1 < 16 ∧ (gt qsE i).2.1 < 16 ∧ (gt qsE i).2.2.1 < 16 ∧ (gt qsE i).2.2.2 < 16 := by
  rcases Nat.lt_or_ge i 8 with h | h
  · rcases (by omega : i = 0 ∨ i = 1 ∨ i = 2 ∨ i = 3 ∨ i = 4 ∨ i = 5 ∨ i = 6 ∨ i = 7) with rfl | rfl | rfl | rfl | rfl | rfl | rfl | rfl <;> decide
  · have : gt qsE i = default := by unfold gt; rw [List.getD_eq_getElem?_getD, List.getElem?_eq_none h]; rfl
    rw [this]; decide
/-- A quarter round. -/
def quart (q : Nat × Nat × Nat × Nat) (ys : List Nat) : List Nat := qh q.1 q.2.1 q.2.2.1 q.2.2.2 8 7 (qh q.1 q.2.1 q.2.2.1 q.2.2.2 16 12 ys)
def qrs (ys : List Nat) : Nat → List Nat
  | 0 => ys
  | i + 1 => quart (gt qsE i) (qrs ys i)
def rnds (ys : List Nat) : Nat → List Nat
  | 0 => ys
  | i + 1 => qrs (rnds ys i) 8
instance instLnQrs {n i : Nat} {ys : List Nat} [h : Ln ys n] : Ln (qrs ys i) n := by
  induction i with
  | zero => exact h
  | succ i ih => rw [qrs, quart]; infer_instance
instance instB32Qrs {i : Nat} {ys : List Nat} [h : B32 ys] : B32 (qrs ys i) := by
  induction i with
  | zero => exact h
  | succ i ih => rw [qrs, quart]; infer_instance
instance {n i : Nat} {ys : List Nat} [h : Ln ys n] : Ln (rnds ys i) n := by
  induction i with
  | zero => exact h
  | succ i ih => rw [rnds]; infer_instance
instance {i : Nat} {ys : List Nat} [h : B32 ys] : B32 (rnds ys i) := by
  induction i with
  | zero => exact h
  | succ i ih => rw [rnds]; infer_instance
/-- The words of a text. -/
def wordE (l : List UInt8) (i : Nat) : Nat := leE ((l.drop (4 * i)).take 4) % 4294967296
def wordsE (l : List UInt8) (n i : Nat) : List Nat := (List.range i).map (wordE l) ++ List.replicate (n - i) 0
theorem wordsE_len {l : List UInt8} {n i : Nat} (h : i ≤ n) : (wordsE l n i).length = n := by simp [wordsE]; omega
theorem wordsE_set {l : List UInt8} {n i : Nat} (h : i < n) : (wordsE l n i).set i (wordE l i) = wordsE l n (i + 1) := by
  rw [wordsE, wordsE, List.range_succ, List.map_append, List.append_assoc, show n - i = (n - (i + 1)) + 1 by omega, List.replicate_succ, List.set_append_right _ _ (by simp)]
  simp
theorem wordsE_B32 {l : List UInt8} {n i : Nat} : B32 (wordsE l n i) := ⟨fun j => by
  unfold gt wordsE
  rw [List.getD_eq_getElem?_getD, List.getElem?_append]
  split
  · next hj =>
    rw [List.getElem?_map]
    simp at hj
    rw [List.getElem?_range hj]; exact Nat.mod_lt _ (by decide)
  · rw [List.getElem?_replicate]
    split <;> decide⟩
theorem littleQ_spec (e : TypeId) (b o n k : Nat) (l : List UInt8) (rest : List Value) (hn : n ≤ 8) (hl : o + n ≤ l.length) :
    Sat Tryd.prog 90 [.slice (some ⟨b, o, none⟩) n k] [row e b (l.map byteV ++ rest)] (fun u L' => u = .int .u64 (leE ((l.drop o).take n) : Nat) ∧ L' = [row e b (l.map byteV ++ rest)]) := by
  all_goals
    refine Sat.enter Tryd.func90 rfl Tryd.ntmps90 rfl (fun c R => ?_)
    try simp only [List.cons_append, List.nil_append]
    repeat' (first
      | (refine T.lpa 0 [(0, _), (5, _)] (0 : Nat) (fun i => [(2, .int .u64 (leE (((l.drop o).take n).take i) : Nat)), (6, .int .i64 (i : Nat))]) (fun _ => []) (fun i => i ≤ n) (fun i => n - i) (Nat.zero_le _) ?_; intro i g hI; have h64 := leE_lt64 (l := ((l.drop o).take n).take i) (by simp only [List.length_take, List.length_drop]; omega))
      | refine Vc.mk ⟨by omega, by rw [List.length_map]; omega⟩ ?_
      | refine TQ.rda (i + 1) ?_ ?_ rfl ⟨(by have h5 := leE_step (l := (l.drop o).take n) (i := i) (by simp only [List.length_take, List.length_drop]; omega) (by simp only [List.length_take, List.length_drop]; omega); rw [gt_part hc hl] at h5; exact congrArg vU64 h5), rfl, rfl, rfl, trivial⟩
      | exact Fini.mk ⟨by (obtain rfl : i = n := by omega); rw [List.take_of_length_le (by simp only [List.length_take]; omega)]; rfl, rfl⟩
      | refine And.intro (fun hc => ?_) (fun hc => ?_)
      | refine And.intro ?_ ?_
      | intro b
      | refine stp ?_
      | refine TQ.finC ?_
      | refine TQ.finC2 ?_
      | refine TQ.finC3 ?_
      | refine ⟨fun hc => ?_, fun hc => ?_⟩
      | refine Ei.f ?_
      | refine ⟨?_, ?_⟩
      | intro b
      | omega
      | (dsimp only; omega)
      | fail)

instance {L R : List Assn} {e : TypeId} {b o n k : Nat} {l : List UInt8} {rest : List Value} [hd : RowDel L b e (l.map byteV ++ rest) R] : FnR Tryd.prog 90 [.slice (some ⟨b, o, none⟩) n k] L (fun q => Vc (n ≤ 8 ∧ o + n ≤ l.length) (q (.int .u64 (leE ((l.drop o).take n) : Nat)) (row e b (l.map byteV ++ rest) :: R))) :=
  ⟨fun q h => ⟨_, R, _, littleQ_spec e b o n k l rest h.l.1 h.l.2, Pick.of1 hd.h, fun v L' hq => by rw [hq.1, hq.2]; exact h.r⟩⟩
instance {L R : List Assn} {e : TypeId} {b o n k : Nat} {l : List UInt8} [hd : RowDel L b e (l.map byteV) R] : FnR Tryd.prog 90 [.slice (some ⟨b, o, none⟩) n k] L (fun q => Vc (n ≤ 8 ∧ o + n ≤ l.length) (q (.int .u64 (leE ((l.drop o).take n) : Nat)) (row e b (l.map byteV) :: R))) :=
  ⟨fun q h => ⟨_, R, _, littleR_spec e b o n k l h.l.1 h.l.2, Pick.of1 hd.h, fun v L' hq => by rw [hq.1, hq.2]; exact h.r⟩⟩

end Go.Proofs.YthbpjjlinebooaaDoor

