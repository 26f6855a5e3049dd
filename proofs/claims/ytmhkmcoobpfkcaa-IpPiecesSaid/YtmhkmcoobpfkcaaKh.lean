/- Lemmas for the proofs of this seat: no statement of the seat is claimed here. -/
import Derived.Test.YtmhkmcoobpfkcaaKf
import Derived.Test.YtmhkmcoobpfkcaaKg
set_option linter.all false

namespace Go.Proofs.Ytmhkmcoobpfkcaa
open Go Pw
set_option maxRecDepth 20000
set_option maxHeartbeats 4000000
set_option synthInstance.maxHeartbeats 400000
set_option synthInstance.maxSize 4000
set_option maxHeartbeats 8000000

theorem valE_pow : ∀ (n : Nat) (s : List UInt8), s.length = n → n ≤ 7 → valE s < 256 ^ n
  | 0, s, h, _ => by cases s with | nil => decide | cons a l => cases h
  | n + 1, s, h, hn => by
    rcases List.eq_nil_or_concat s with rfl | ⟨l, a, rfl⟩
    · cases h
    · rw [List.concat_eq_append] at h ⊢
      have hl : l.length = n := by simpa using h
      have h2 := valE_pow n l hl (by omega)
      have h3 : 256 ^ n ≤ 256 ^ 6 := Nat.pow_le_pow_right (by decide) (by omega)
      have ha := a.toNat_lt
      have e : valE (l ++ [a]) = valS (valE l) a := by unfold valE; rw [List.foldl_append]; rfl
      rw [e]; unfold valS
      rw [Nat.mod_eq_of_lt (by omega), Nat.pow_succ]
      have h4 : valE l * 2 ^ 8 ||| a.toNat = valE l * 2 ^ 8 + a.toNat := by
        rw [Nat.mul_comm]; exact (Nat.two_pow_add_eq_or_of_lt (i := 8) (by omega) _).symm
      rw [h4]; omega
class MaskN (b : Nat) (m : outParam Nat) : Prop where h : ∀ x : Nat, x &&& b = x % m
instance : MaskN 15 16 := ⟨fun n => Nat.and_two_pow_sub_one_eq_mod n 4⟩
instance : MaskN 8191 8192 := ⟨fun n => Nat.and_two_pow_sub_one_eq_mod n 13⟩
instance (priority := 1200) {P : Program} {k : IntKind} {x y : Int} {a b m l : Nat} {t : TypeId} [hl : Lim k l] [h1 : Nn x a] [h2 : Nn y b] [hm : MaskN b m] : Pu P (.bin .and t (.int k x) (.int k y)) (fun q => Vc ((a < l ∧ b < l)) (q (.int k ((a % m : Nat) : Int)))) := ⟨fun E d op ty pos af g hr q hq => by
  obtain ⟨v, h, h'⟩ := (inferInstance : Pu P (.bin .and t (.int k x) (.int k y)) (fun q => Vc ((a < l ∧ b < l)) (q (.int k ((a &&& b : Nat) : Int))))).go E d op ty pos af g hr q ⟨hq.l, by rw [hm.h]; exact hq.r⟩
  exact ⟨v, h, h'⟩⟩
def v2 (s : List UInt8) (i : Nat) : Nat := valE ((s.take (i + 2)).drop i)
def v4 (s : List UInt8) (i : Nat) : Nat := valE ((s.take (i + 4)).drop i)
theorem v2_lt {s : List UInt8} {i : Nat} : v2 s i < 65536 := by
  have h : ((s.take (i + 2)).drop i).length ≤ 2 := by simp only [List.length_drop, List.length_take]; omega
  have h2 := valE_pow _ _ rfl (Nat.le_trans h (by decide))
  exact Nat.lt_of_lt_of_le h2 (Nat.pow_le_pow_right (by decide) h)
theorem v4_lt {s : List UInt8} {i : Nat} : v4 s i < 4294967296 := by
  have h : ((s.take (i + 4)).drop i).length ≤ 4 := by simp only [List.length_drop, List.length_take]; omega
  have h2 := valE_pow _ _ rfl (Nat.le_trans h (by decide))
  exact Nat.lt_of_lt_of_le h2 (Nat.pow_le_pow_right (by decide) h)
def hdE (s : List UInt8) : Nat := 4 * ((gt s 0).toNat % 16)
def badE (s : List UInt8) : Prop := (gt s 0).toNat / 16 ≠ 4 ∨ hdE s < 20 ∨ v2 s 2 < hdE s ∨ 32768 ≤ v2 s 6
instance (s : List UInt8) : Decidable (badE s) := by unfold badE; infer_instance
def gotE (s : List UInt8) : Pkt := ⟨v4 s 12, v4 s 16, (gt s 9).toNat, (gt s 8).toNat, v2 s 4, decide (v2 s 6 &&& 16384 ≠ 0), decide (v2 s 6 &&& 8192 ≠ 0), v2 s 6 % 8192, (s.take (v2 s 2)).drop (hdE s)⟩
def decE (s : List UInt8) : Pkt × Nat := if s.length < 20 then (zP, 7) else if badE s then (zP, 8) else if s.length < v2 s 2 then (zP, 7) else if sumE (s.take (hdE s)) ≠ 0 then (zP, 180) else (gotE s, 0)
theorem and15 (n : Nat) : n &&& 15 = n % 16 := Nat.and_two_pow_sub_one_eq_mod n 4
theorem and13 (n : Nat) : n &&& 8191 = n % 8192 := Nat.and_two_pow_sub_one_eq_mod n 13
theorem and15b {n : Nat} (h : n < 65536) : (n &&& 32768 = 0) ↔ n < 32768 := by
  constructor
  · intro h1
    rcases Nat.lt_or_ge n 32768 with h2 | h2
    · exact h2
    · exfalso
      have h3 := Nat.testBit_of_two_pow_le_and_two_pow_add_one_gt (n := n) (i := 15) h2 (by omega)
      have h4 : (n &&& 32768).testBit 15 = true := by rw [Nat.testBit_and, h3, show 32768 = 2 ^ 15 from rfl, Nat.testBit_two_pow]; rfl
      rw [h1] at h4
      simp at h4
  · intro h1
    apply Nat.eq_of_testBit_eq
    intro i
    rw [Nat.testBit_and, show 32768 = 2 ^ 15 from rfl, Nat.testBit_two_pow]
    by_cases hi : 15 = i
    · subst hi; rw [Nat.testBit_lt_two_pow h1]; simp
    · simp [hi]

theorem and15n {n : Nat} (h : n < 65536) (h2 : n &&& 32768 ≠ 0) : 32768 ≤ n := Nat.not_lt.1 fun h3 => h2 ((and15b h).2 h3)
theorem and15m {n : Nat} (h : n < 65536) (h2 : ¬ (n &&& 32768 ≠ 0)) : ¬ 32768 ≤ n := Nat.not_le.2 ((and15b h).1 (Decidable.not_not.1 h2))
theorem dec_s {s : List UInt8} (h : s.length < 20) : decE s = (zP, 7) := if_pos h
theorem dec_f {s : List UInt8} (h : ¬ s.length < 20) (h2 : badE s) : decE s = (zP, 8) := by unfold decE; rw [if_neg h, if_pos h2]
theorem dec_t {s : List UInt8} (h : ¬ s.length < 20) (h2 : ¬ badE s) (h3 : s.length < v2 s 2) : decE s = (zP, 7) := by unfold decE; rw [if_neg h, if_neg h2, if_pos h3]
theorem dec_c {s : List UInt8} (h : ¬ s.length < 20) (h2 : ¬ badE s) (h3 : ¬ s.length < v2 s 2) (h4 : sumE (s.take (hdE s)) ≠ 0) : decE s = (zP, 180) := by unfold decE; rw [if_neg h, if_neg h2, if_neg h3, if_pos h4]
theorem dec_o {s : List UInt8} (h : ¬ s.length < 20) (h2 : ¬ badE s) (h3 : ¬ s.length < v2 s 2) (h4 : ¬ sumE (s.take (hdE s)) ≠ 0) : decE s = (gotE s, 0) := by unfold decE; rw [if_neg h, if_neg h2, if_neg h3, if_neg h4]
theorem hd_eq (s : List UInt8) : 4 * ((gt s 0).toNat % 16) = hdE s := rfl
theorem v2_eq (s : List UInt8) : valE (List.drop 2 (List.take 4 s)) = v2 s 2 := rfl
attribute [local irreducible] valE sumE numE
theorem decode_spec (s : List UInt8) (hs : s.length < 1099511627776) :
    Sat Try.prog 19 [str s] [] (fun u L' => u = asResult [.agg (pktV (decE s).1).toArray, .int .i64 ((decE s).2 : Nat)] ∧ L' = []) := by
  have q1 : valE (List.drop 2 (List.take 4 s)) < 65536 := v2_lt (i := 2)
  have q2 : valE (List.drop 6 (List.take 8 s)) < 65536 := v2_lt (i := 6)
  have q3 : valE (List.drop 4 (List.take 6 s)) < 65536 := v2_lt (i := 4)
  have q4 : valE (List.drop 12 (List.take 16 s)) < 4294967296 := v4_lt (i := 12)
  have q5 : valE (List.drop 16 (List.take 20 s)) < 4294967296 := v4_lt (i := 16)
  have q6 := (gt s 0).toNat_lt
  all_goals
    refine Sat.enter Try.func19 rfl Try.ntmps19 rfl (fun c R => ?_)
    try simp only [List.cons_append, List.nil_append]
    repeat' (first
      | exact valE_lt _
      | (exact Fini.of ⟨by rw [dec_s (by assumption)]; rfl, rfl⟩ (by repeat first | exact Imp.refl _ | (apply Imp.pull; focus ((repeat first | exact Del.head _ _ | apply Del.tail); done)) | apply Imp.drop))
      | (exact Fini.of ⟨by rw [dec_f (by assumption) (by unfold badE hdE v2; simp only [Nat.reduceAdd]; first | (left; omega) | (right; left; omega) | (right; right; left; omega) | (right; right; right; omega) | (right; right; right; exact and15n q2 (by assumption)))]; rfl, rfl⟩ (by repeat first | exact Imp.refl _ | (apply Imp.pull; focus ((repeat first | exact Del.head _ _ | apply Del.tail); done)) | apply Imp.drop))
      | (exact Fini.of ⟨by rw [dec_t (by assumption) (by unfold badE hdE v2; simp only [Nat.reduceAdd]; rintro (h | h | h | h) <;> first | omega | exact absurd h (and15m q2 (by assumption))) (by unfold v2; simp only [Nat.reduceAdd]; omega)]; rfl, rfl⟩ (by repeat first | exact Imp.refl _ | (apply Imp.pull; focus ((repeat first | exact Del.head _ _ | apply Del.tail); done)) | apply Imp.drop))
      | (exact Fini.of ⟨by rw [dec_c (by assumption) (by unfold badE hdE v2; simp only [Nat.reduceAdd]; rintro (h | h | h | h) <;> first | omega | exact absurd h (and15m q2 (by assumption))) (by unfold v2; simp only [Nat.reduceAdd]; omega) (by assumption)]; rfl, rfl⟩ (by repeat first | exact Imp.refl _ | (apply Imp.pull; focus ((repeat first | exact Del.head _ _ | apply Del.tail); done)) | apply Imp.drop))
      | (exact Fini.of ⟨by rw [dec_o (by assumption) (by unfold badE hdE v2; simp only [Nat.reduceAdd]; rintro (h | h | h | h) <;> first | omega | exact absurd h (and15m q2 (by assumption))) (by unfold v2; simp only [Nat.reduceAdd]; omega) (by assumption)]; rfl, rfl⟩ (by repeat first | exact Imp.refl _ | (apply Imp.pull; focus ((repeat first | exact Del.head _ _ | apply Del.tail); done)) | apply Imp.drop))
      | refine T.pl 3 [7, 11] (.p 0 (.p 1 (.p 2 (.p 3 (.p 4 (.p 5 (.p 6 (.p 9 (.p 10 (.n 7 (.p 8 (.n 11 (.p 12 (.p 13 (.p 14 .fin))))))))))))))) ?_
      | refine T.pl 13 [2, 6, 14, 30] (.p 0 (.p 1 (.p 4 (.p 5 (.p 8 (.p 9 (.p 10 (.p 11 (.p 12 (.p 13 (.p 16 (.p 17 (.p 18 (.p 19 (.p 20 (.p 21 (.p 22 (.p 23 (.p 24 (.p 25 (.p 26 (.p 27 (.p 28 (.n 2 (.p 3 (.n 6 (.p 7 (.n 14 (.p 15 (.p 29 (.n 30 (.p 31 .fin)))))))))))))))))))))))))))))))) ?_
      | refine And.intro (fun hc => ?_) (fun hc => ?_)
      | refine And.intro ?_ ?_
      | intro b
      | refine stp ?_
      | refine TQ.finC ?_
      | refine TQ.finC2 ?_
      | refine TQ.finC3 ?_
      | refine ⟨fun hc => ?_, fun hc => ?_⟩
      | refine Ei.f ?_
      | refine ⟨?_, ?_⟩
      | intro b
      | exact absurd rfl hc
      | exact absurd hc (by decide)
      | exact absurd rfl hc
      | exact absurd hc (by decide)
      | (exact Nat.or_lt_two_pow (n := 64) (Nat.mod_lt _ (by decide)) (Nat.lt_of_lt_of_le (by assumption) (by decide)))
      | exact absurd rfl hc
      | exact absurd hc (by decide)
      | omega
      | (dsimp only; omega)
      | (simp only [List.length_drop, List.length_take]; omega)
      | exact Nat.lt_of_le_of_lt Nat.and_le_right (by decide)
      | fail)
instance {L : List Assn} {s : List UInt8} : FnR Try.prog 19 [str s] L (fun kk => Vc (s.length < 1099511627776) (kk (asResult [.agg (pktV (decE s).1).toArray, .int .i64 ((decE s).2 : Nat)]) L)) := ⟨fun kk h => ⟨[], L, _, decode_spec s h.l, .nil _, fun v L' hq => by rw [hq.1, hq.2]; exact h.r⟩⟩
theorem rdecode_spec (s : List UInt8) (hs : s.length < 1099511627776) :
    Sat Try.prog 20 [str s] [] (fun u L' => u = asResult [.agg (pktV (decE s).1).toArray, .int .i64 ((decE s).2 : Nat)] ∧ L' = []) := by
  have q1 : valE (List.drop 2 (List.take 4 s)) < 65536 := v2_lt (i := 2)
  have q2 : valE (List.drop 6 (List.take 8 s)) < 65536 := v2_lt (i := 6)
  have q3 : valE (List.drop 4 (List.take 6 s)) < 65536 := v2_lt (i := 4)
  have q4 : valE (List.drop 12 (List.take 16 s)) < 4294967296 := v4_lt (i := 12)
  have q5 : valE (List.drop 16 (List.take 20 s)) < 4294967296 := v4_lt (i := 16)
  have q6 := (gt s 0).toNat_lt
  all_goals
    refine Sat.enter Try.func20 rfl Try.ntmps20 rfl (fun c R => ?_)
    try simp only [List.cons_append, List.nil_append]
    repeat' (first
      | exact valE_lt _
      | (exact Fini.of ⟨by rw [dec_s (by assumption)]; rfl, rfl⟩ (by repeat first | exact Imp.refl _ | (apply Imp.pull; focus ((repeat first | exact Del.head _ _ | apply Del.tail); done)) | apply Imp.drop))
      | (exact Fini.of ⟨by rw [dec_f (by assumption) (by unfold badE hdE v2; simp only [Nat.reduceAdd]; first | (left; omega) | (right; left; omega) | (right; right; left; omega) | (right; right; right; omega) | (right; right; right; exact and15n q2 (by assumption)))]; rfl, rfl⟩ (by repeat first | exact Imp.refl _ | (apply Imp.pull; focus ((repeat first | exact Del.head _ _ | apply Del.tail); done)) | apply Imp.drop))
      | (exact Fini.of ⟨by rw [dec_t (by assumption) (by unfold badE hdE v2; simp only [Nat.reduceAdd]; rintro (h | h | h | h) <;> first | omega | exact absurd h (and15m q2 (by assumption))) (by unfold v2; simp only [Nat.reduceAdd]; omega)]; rfl, rfl⟩ (by repeat first | exact Imp.refl _ | (apply Imp.pull; focus ((repeat first | exact Del.head _ _ | apply Del.tail); done)) | apply Imp.drop))
      | (exact Fini.of ⟨by rw [dec_c (by assumption) (by unfold badE hdE v2; simp only [Nat.reduceAdd]; rintro (h | h | h | h) <;> first | omega | exact absurd h (and15m q2 (by assumption))) (by unfold v2; simp only [Nat.reduceAdd]; omega) (by assumption)]; rfl, rfl⟩ (by repeat first | exact Imp.refl _ | (apply Imp.pull; focus ((repeat first | exact Del.head _ _ | apply Del.tail); done)) | apply Imp.drop))
      | (exact Fini.of ⟨by rw [dec_o (by assumption) (by unfold badE hdE v2; simp only [Nat.reduceAdd]; rintro (h | h | h | h) <;> first | omega | exact absurd h (and15m q2 (by assumption))) (by unfold v2; simp only [Nat.reduceAdd]; omega) (by assumption)]; rfl, rfl⟩ (by repeat first | exact Imp.refl _ | (apply Imp.pull; focus ((repeat first | exact Del.head _ _ | apply Del.tail); done)) | apply Imp.drop))
      | refine T.pl 12 [2, 6, 14, 17, 18] (.p 0 (.p 1 (.p 4 (.p 5 (.p 8 (.p 9 (.p 10 (.p 11 (.p 12 (.p 13 (.b2 2 (.p 3 (.b2 6 (.p 7 (.b2 14 (.p 15 (.p 16 (.n 17 (.n 18 .fin)))) 17 (.n 14 (.p 15 (.p 16 (.n 18 .fin)))))) 17 (.n 6 (.p 7 (.n 14 (.p 15 (.p 16 (.n 18 .fin)))))))) 17 (.n 2 (.p 3 (.n 6 (.p 7 (.n 14 (.p 15 (.p 16 (.n 18 .fin))))))))))))))))))) ?_
      | refine And.intro (fun hc => ?_) (fun hc => ?_)
      | refine And.intro ?_ ?_
      | intro b
      | refine stp ?_
      | refine TQ.finC ?_
      | refine TQ.finC2 ?_
      | refine TQ.finC3 ?_
      | refine ⟨fun hc => ?_, fun hc => ?_⟩
      | refine Ei.f ?_
      | refine ⟨?_, ?_⟩
      | intro b
      | exact absurd rfl hc
      | exact absurd hc (by decide)
      | exact absurd rfl hc
      | exact absurd hc (by decide)
      | (exact Nat.or_lt_two_pow (n := 64) (Nat.mod_lt _ (by decide)) (Nat.lt_of_lt_of_le (by assumption) (by decide)))
      | exact absurd rfl hc
      | exact absurd hc (by decide)
      | omega
      | (dsimp only; omega)
      | (simp only [List.length_drop, List.length_take]; omega)
      | exact Nat.lt_of_le_of_lt Nat.and_le_right (by decide)
      | fail)
instance {L : List Assn} {s : List UInt8} : FnR Try.prog 20 [str s] L (fun kk => Vc (s.length < 1099511627776) (kk (asResult [.agg (pktV (decE s).1).toArray, .int .i64 ((decE s).2 : Nat)]) L)) := ⟨fun kk h => ⟨[], L, _, rdecode_spec s h.l, .nil _, fun v L' hq => by rw [hq.1, hq.2]; exact h.r⟩⟩

end Go.Proofs.Ytmhkmcoobpfkcaa

