/- Lemmas for the proofs of this seat: no statement of the seat is claimed here. -/
import Derived.Test.YtcidilijlgaohaaDoorA4
set_option linter.all false
namespace Go.Proofs.YtcidilijlgaohaaDoor
open Go Pw
set_option maxRecDepth 20000
set_option maxHeartbeats 4000000

theorem or_sh {a b : Nat} (ha : a < 18446744073709551616) : a / 2 ^ 2 ||| b * 2 ^ 62 % 18446744073709551616 = a / 4 + b % 4 * 4611686018427387904 := by
  have h1 : b * 2 ^ 62 % 18446744073709551616 = 2 ^ 62 * (b % 4) := by omega
  have h2 := Nat.two_pow_add_eq_or_of_lt (i := 62) (b := a / 2 ^ 2) (by omega) (b % 4)
  rw [h1, Nat.or_comm, ← h2]; omega
theorem and_n (a : Nat) : a ^^^ (a &&& 3) = a / 4 * 4 := by
  have h : a / 4 * 4 = (a >>> 2) <<< 2 := by rw [Nat.shiftRight_eq_div_pow, Nat.shiftLeft_eq]
  rw [h]; apply Nat.eq_of_testBit_eq; intro i
  rw [show (3 : Nat) = 2 ^ 2 - 1 from rfl]
  simp only [Nat.testBit_xor, Nat.testBit_and, Nat.testBit_shiftLeft, Nat.testBit_shiftRight, Nat.testBit_two_pow_sub_one]
  by_cases hi : i < 2
  · have : ¬ 2 ≤ i := by omega
    simp [hi, this]
  · have h2 : 2 ≤ i := by omega
    simp [hi, h2]
theorem t_low {x r0 r1 : Nat} (hx : x < 10889035741470030830827987437816582766592) (h0 : r0 < 1152921504606846976) (h1 : r1 < 1152921504606846976) : x * (r0 + 18446744073709551616 * r1) < 463168356949264781694283940034751631413079938662562256157830336031652518559744 := by
  calc x * (r0 + 18446744073709551616 * r1) ≤ 10889035741470030830827987437816582766592 * (r0 + 18446744073709551616 * r1) := Nat.mul_le_mul_right _ (by omega)
    _ < _ := by omega
theorem t_fin {w w0 w1 w2 w3 w4 : Nat} (k0 : w0 < 18446744073709551616) (k1 : w1 < 18446744073709551616) (k2 : w2 < 18446744073709551616) (k3 : w3 < 18446744073709551616) (k4 : w4 < 18446744073709551616) (k5 : w0 + 18446744073709551616 * w1 + 340282366920938463463374607431768211456 * w2 + 6277101735386680763835789423207666416102355444464034512896 * w3 + 115792089237316195423570985008687907853269984665640564039457584007913129639936 * w4 = w) : w0 + 18446744073709551616 * w1 + 340282366920938463463374607431768211456 * (w2 &&& 3) + ((w2 ^^^ (w2 &&& 3)) + 18446744073709551616 * w3 + 340282366920938463463374607431768211456 * w4) + ((w2 / 2 ^ 2 ||| w3 * 2 ^ 62 % 18446744073709551616) + 18446744073709551616 * (w3 / 2 ^ 2 ||| w4 * 2 ^ 62 % 18446744073709551616) + 340282366920938463463374607431768211456 * (w4 / 2 ^ 2)) = w % 1361129467683753853853498429727072845824 + 5 * (w / 1361129467683753853853498429727072845824) := by
  rw [and_n, and3, or_sh k2, or_sh k3]; omega
abbrev Lq (p w c : Nat) : Nat := ((p % 18446744073709551616 + w + 0) % 18446744073709551616 + c + 0) % 18446744073709551616
abbrev H0 (p w : Nat) : Nat := (p / 18446744073709551616 + (p % 18446744073709551616 + w + 0) / 18446744073709551616) % 18446744073709551616 + ((p % 18446744073709551616 + w + 0) % 18446744073709551616 + 0 + 0) / 18446744073709551616
abbrev H1 (p w c : Nat) : Nat := ((p / 18446744073709551616 + (p % 18446744073709551616 + w + 0) / 18446744073709551616) % 18446744073709551616 + ((p % 18446744073709551616 + w + 0) % 18446744073709551616 + c + 0) / 18446744073709551616) % 18446744073709551616
theorem lh0 {p w : Nat} (hp : p ≤ 340282366920938463426481119284349108225) (hw : w < 18446744073709551616) : Lq p w 0 + 18446744073709551616 * H0 p w = p + w ∧ Lq p w 0 < 18446744073709551616 ∧ H0 p w < 18446744073709551616 := by
  refine ⟨?_, ?_, ?_⟩ <;> simp only [Lq, H0] <;> omega
theorem lh1 {p w c : Nat} (hp : p ≤ 340282366920938463426481119284349108225) (hw : w < 18446744073709551616) (hc : c < 18446744073709551616) : Lq p w c + 18446744073709551616 * H1 p w c = p + w + c ∧ Lq p w c < 18446744073709551616 ∧ H1 p w c < 18446744073709551616 := by
  refine ⟨?_, ?_, ?_⟩ <;> simp only [Lq, H1] <;> omega
theorem pb {a b : Nat} (ha : a < 18446744073709551616) (hb : b < 18446744073709551616) : a * b ≤ 340282366920938463426481119284349108225 := Nat.mul_le_mul (Nat.le_sub_one_of_lt ha) (Nat.le_sub_one_of_lt hb)
theorem t_cut {p00 p01 p10 p11 p20 p21 : Nat} (q00 : p00 ≤ 340282366920938463426481119284349108225) (q01 : p01 ≤ 340282366920938463426481119284349108225) (q10 : p10 ≤ 340282366920938463426481119284349108225) (q11 : p11 ≤ 340282366920938463426481119284349108225) (q20 : p20 ≤ 340282366920938463426481119284349108225) (q21 : p21 ≤ 340282366920938463426481119284349108225) {w : Nat}
    (hw : p00 + 18446744073709551616 * p01 + 18446744073709551616 * p10 + 340282366920938463463374607431768211456 * p11 + 340282366920938463463374607431768211456 * p20 + 6277101735386680763835789423207666416102355444464034512896 * p21 = w) :
    Lq p00 0 0 < 18446744073709551616 ∧ Lq p10 (Lq p01 0 (H0 p00 0)) 0 < 18446744073709551616 ∧ Lq p20 (Lq p11 (H1 p01 0 (H0 p00 0)) (H0 p10 (Lq p01 0 (H0 p00 0)))) 0 < 18446744073709551616 ∧
    Lq p21 (H1 p11 (H1 p01 0 (H0 p00 0)) (H0 p10 (Lq p01 0 (H0 p00 0)))) (H0 p20 (Lq p11 (H1 p01 0 (H0 p00 0)) (H0 p10 (Lq p01 0 (H0 p00 0))))) < 18446744073709551616 ∧
    H1 p21 (H1 p11 (H1 p01 0 (H0 p00 0)) (H0 p10 (Lq p01 0 (H0 p00 0)))) (H0 p20 (Lq p11 (H1 p01 0 (H0 p00 0)) (H0 p10 (Lq p01 0 (H0 p00 0))))) < 18446744073709551616 ∧
    Lq p00 0 0 + 18446744073709551616 * Lq p10 (Lq p01 0 (H0 p00 0)) 0 + 340282366920938463463374607431768211456 * Lq p20 (Lq p11 (H1 p01 0 (H0 p00 0)) (H0 p10 (Lq p01 0 (H0 p00 0)))) 0 +
    6277101735386680763835789423207666416102355444464034512896 * Lq p21 (H1 p11 (H1 p01 0 (H0 p00 0)) (H0 p10 (Lq p01 0 (H0 p00 0)))) (H0 p20 (Lq p11 (H1 p01 0 (H0 p00 0)) (H0 p10 (Lq p01 0 (H0 p00 0))))) +
    115792089237316195423570985008687907853269984665640564039457584007913129639936 * H1 p21 (H1 p11 (H1 p01 0 (H0 p00 0)) (H0 p10 (Lq p01 0 (H0 p00 0)))) (H0 p20 (Lq p11 (H1 p01 0 (H0 p00 0)) (H0 p10 (Lq p01 0 (H0 p00 0))))) = w := by
  obtain ⟨a1, a2, a3⟩ := lh0 q00 (w := 0) (by decide)
  generalize Lq p00 0 0 = w0 at *
  generalize H0 p00 0 = c00 at *
  obtain ⟨b1, b2, b3⟩ := lh1 q01 (w := 0) (by decide) a3
  generalize Lq p01 0 c00 = w1 at *
  generalize H1 p01 0 c00 = w2 at *
  obtain ⟨d1, d2, d3⟩ := lh0 q10 b2
  generalize Lq p10 w1 0 = v1 at *
  generalize H0 p10 w1 = c10 at *
  obtain ⟨e1, e2, e3⟩ := lh1 q11 b3 d3
  generalize Lq p11 w2 c10 = v2 at *
  generalize H1 p11 w2 c10 = w3 at *
  obtain ⟨f1, f2, f3⟩ := lh0 q20 e2
  generalize Lq p20 v2 0 = u2 at *
  generalize H0 p20 v2 = c20 at *
  obtain ⟨g1, g2, g3⟩ := lh1 q21 e3 f3
  generalize Lq p21 w3 c20 = u3 at *
  generalize H1 p21 w3 c20 = u4 at *
  clear q00 q01 q10 q11 q20 q21
  omega
theorem t_sum {x r0 r1 : Nat} (hx : x < 10889035741470030830827987437816582766592) : x % 18446744073709551616 * r0 + 18446744073709551616 * (x % 18446744073709551616 * r1) + 18446744073709551616 * (x / 18446744073709551616 % 18446744073709551616 * r0) + 340282366920938463463374607431768211456 * (x / 18446744073709551616 % 18446744073709551616 * r1) + 340282366920938463463374607431768211456 * (x / 340282366920938463463374607431768211456 % 18446744073709551616 * r0) + 6277101735386680763835789423207666416102355444464034512896 * (x / 340282366920938463463374607431768211456 % 18446744073709551616 * r1) = x * (r0 + 18446744073709551616 * r1) := by
  have h := dd x
  have hh : x = x % 18446744073709551616 + 18446744073709551616 * (x / 18446744073709551616 % 18446744073709551616) + 340282366920938463463374607431768211456 * (x / 340282366920938463463374607431768211456 % 18446744073709551616) := by omega
  generalize x % 18446744073709551616 = a at *
  generalize x / 18446744073709551616 % 18446744073709551616 = b at *
  generalize x / 340282366920938463463374607431768211456 % 18446744073709551616 = d at *
  rw [hh, Nat.mul_add, Nat.add_mul, Nat.add_mul, Nat.add_mul, Nat.add_mul]
  have e1 : 18446744073709551616 * b * r0 = 18446744073709551616 * (b * r0) := by rw [Nat.mul_assoc]
  have e2 : 340282366920938463463374607431768211456 * d * r0 = 340282366920938463463374607431768211456 * (d * r0) := by rw [Nat.mul_assoc]
  have e3 : a * (18446744073709551616 * r1) = 18446744073709551616 * (a * r1) := by rw [Nat.mul_left_comm]
  have e4 : 18446744073709551616 * b * (18446744073709551616 * r1) = 340282366920938463463374607431768211456 * (b * r1) := by rw [Nat.mul_assoc, Nat.mul_left_comm b, ← Nat.mul_assoc]
  have e5 : 340282366920938463463374607431768211456 * d * (18446744073709551616 * r1) = 6277101735386680763835789423207666416102355444464034512896 * (d * r1) := by rw [Nat.mul_assoc, Nat.mul_left_comm d, ← Nat.mul_assoc]
  rw [e1, e2, e3, e4, e5]; omega
def timesE (x r0 r1 : Nat) : Nat := foldE (x * (r0 + 18446744073709551616 * r1) % 1361129467683753853853498429727072845824 + 5 * (x * (r0 + 18446744073709551616 * r1) / 1361129467683753853853498429727072845824))
theorem times_spec (x r0 r1 : Nat) (hx : x < 10889035741470030830827987437816582766592) (h0 : r0 < 1152921504606846976) (h1 : r1 < 1152921504606846976) :
    Sat Tryd.prog 29 [.agg (numV x).toArray, .agg #[.int .u64 r0, .int .u64 r1]] [] (fun u L' => u = .agg (numV (timesE x r0 r1)).toArray ∧ L' = []) := by
  all_goals
    refine Sat.enter Tryd.func29 rfl Tryd.ntmps29 rfl (fun c R => ?_)
    try simp only [List.cons_append, List.nil_append]
    repeat' (first
      | exact Fini.mk ⟨by rw [t_fin k0 k1 k2 k3 k4 k5]; rfl, rfl⟩
      | (rename_i b1 b2 b3; refine T.cutt 0 (fun s : Nat × Nat × Nat × Nat × Nat => [(5, .pointer (some ⟨b, 0, none⟩)), (4, .pointer (some ⟨b3, 0, none⟩))]) (fun s => [row 81 b [vU64 s.1, vU64 s.2.1, vU64 s.2.2.1, vU64 s.2.2.2.1, vU64 s.2.2.2.2], row 54 b3 [.int .u64 0, .int .u64 0, .int .u64 0]] ++ R) (fun s => s.1 < 18446744073709551616 ∧ s.2.1 < 18446744073709551616 ∧ s.2.2.1 < 18446744073709551616 ∧ s.2.2.2.1 < 18446744073709551616 ∧ s.2.2.2.2 < 18446744073709551616 ∧ s.1 + 18446744073709551616 * s.2.1 + 340282366920938463463374607431768211456 * s.2.2.1 + 6277101735386680763835789423207666416102355444464034512896 * s.2.2.2.1 + 115792089237316195423570985008687907853269984665640564039457584007913129639936 * s.2.2.2.2 = x * (r0 + 18446744073709551616 * r1)) ?_ ?_; rotate_left; rintro ⟨w0, w1, w2, w3, w4⟩ g ⟨k0, k1, k2, k3, k4, k5⟩; dsimp only at k0 k1 k2 k3 k4 k5 ⊢; have a1 := and3 w2; have a2 := and_n w2; have a3 := or_sh (b := w3) k2; have a4 := or_sh (b := w4) k3; have a5 := t_low hx h0 h1; rw [← k5] at a5; simp only [List.cons_append, List.nil_append])
      | (dsimp only; exact t_cut (pb (Nat.mod_lt _ (by decide)) (by omega)) (pb (Nat.mod_lt _ (by decide)) (by omega)) (pb (Nat.mod_lt _ (by decide)) (by omega)) (pb (Nat.mod_lt _ (by decide)) (by omega)) (pb (Nat.mod_lt _ (by decide)) (by omega)) (pb (Nat.mod_lt _ (by decide)) (by omega)) (t_sum hx))
      | refine T.unb 0 3 ?_
      | refine T.unb 2 2 ?_
      | (refine TQ.cn (_, _, _, _, _) rfl ⟨rfl, rfl, trivial⟩ ?_ (Ent.imp (by repeat first | exact Imp.refl _ | (apply Imp.pull; focus ((repeat first | exact Del.head _ _ | apply Del.tail); done)) | apply Imp.drop)))
      | refine T.pl 20 [2, 4, 5, 6] (.d 0 (.d 1 (.b2 2 (.d 3 (.n 4 (.n 5 (.n 6 .fin)))) 3 (.n 2 (.n 4 (.n 5 (.n 6 .fin))))))) ?_
      | refine stp ?_
      | refine TQ.finC ?_
      | refine ⟨fun hc => ?_, fun hc => ?_⟩
      | refine Ei.f ?_
      | refine ⟨?_, ?_⟩
      | intro b
      | omega
      | (dsimp only; omega)
      | omega
      | (dsimp only; omega)
      | omega
      | (dsimp only; omega)
      | omega
      | (dsimp only; omega)
      | fail)

end Go.Proofs.YtcidilijlgaohaaDoor
