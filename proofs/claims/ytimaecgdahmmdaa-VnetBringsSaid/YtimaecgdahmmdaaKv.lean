/- Lemmas for the proofs of this seat: no statement of the seat is claimed here. -/
import Derived.Test.YtimaecgdahmmdaaKu
set_option linter.all false

namespace Go.Proofs.Ytimaecgdahmmdaa
open Go Pw
set_option maxRecDepth 20000
set_option maxHeartbeats 4000000
set_option synthInstance.maxHeartbeats 400000
set_option synthInstance.maxSize 4000
set_option maxHeartbeats 8000000

def rndN (n : Nat) : Nat := (n + 15) ^^^ ((n + 15) &&& 15)
/-- How many bytes a card takes, where it may be. -/
def nszN (a b c : Nat) : Nat := rndN (sizeE (a : Nat)) + rndN (sizeE (b : Nat)) + (a + b) * c
theorem rnd_eq (n : Nat) : rndN n = (n + 15) / 16 * 16 := by
  unfold rndN
  have h1 : (n + 15) &&& 15 = (n + 15) % 16 := Nat.and_two_pow_sub_one_eq_mod (n + 15) 4
  rw [h1]
  have h2 : (n + 15) = 2 ^ 4 * ((n + 15) / 16) + (n + 15) % 16 := by omega
  have h3 : (n + 15) % 16 < 2 ^ 4 := by omega
  have h4 : (n + 15) ^^^ ((n + 15) % 16) = 2 ^ 4 * ((n + 15) / 16) := by
    conv => lhs; lhs; rw [h2]
    apply Nat.eq_of_testBit_eq
    intro i
    rw [Nat.testBit_xor, Nat.testBit_two_pow_mul_add _ h3, Nat.testBit_two_pow_mul]
    by_cases h5 : i < 4
    · rw [if_pos h5]; simp; omega
    · rw [if_neg h5, Nat.testBit_lt_two_pow (x := (n + 15) % 16) (i := i) (Nat.lt_of_lt_of_le h3 (Nat.pow_le_pow_right (by omega) (by omega)))]
      simp; omega
  rw [h4]; omega
/-- What stands behind a head. -/
def frmE (s : List UInt8) : List UInt8 × Bool :=
  if (s.drop (min s.length 12)).length < 14 ∨ 1514 < (s.drop (min s.length 12)).length then ([], false) else (s.drop (min s.length 12), decide ((s.take (min s.length 12)).take 2 = [0, 0] ∧ (s.take (min s.length 12)).drop 10 = [1, 0]))
theorem frm_no {s : List UInt8} (h : (s.drop (min s.length 12)).length < 14 ∨ 1514 < (s.drop (min s.length 12)).length) : asResult [Value.string ⟨#[]⟩, .bool false] = .tuple #[str (frmE s).1, .bool (frmE s).2] := by unfold frmE; rw [if_pos h]; rfl
theorem frm_n2 {s : List UInt8} (h : ¬ (s.drop (min s.length 12)).length < 14) (h2 : ¬ 1514 < (s.drop (min s.length 12)).length) (h3 : ¬ (s.take (min s.length 12)).take 2 = [0, 0]) : asResult [Value.string ⟨(s.drop (min s.length 12)).toArray⟩, .bool false] = .tuple #[str (frmE s).1, .bool (frmE s).2] := by
  unfold frmE; rw [if_neg (by rintro (h | h) <;> contradiction), decide_eq_false (fun h => h3 h.1)]; rfl
theorem frm_ok {s : List UInt8} (h : ¬ (s.drop (min s.length 12)).length < 14) (h2 : ¬ 1514 < (s.drop (min s.length 12)).length) (h3 : (s.take (min s.length 12)).take 2 = [0, 0]) : asResult [Value.string ⟨(s.drop (min s.length 12)).toArray⟩, .bool (decide ((s.take (min s.length 12)).drop 10 = [1, 0]))] = .tuple #[str (frmE s).1, .bool (frmE s).2] := by
  unfold frmE; rw [if_neg (by rintro (h | h) <;> contradiction)]; simp only [h3, true_and]; rfl
theorem frm_len {s : List UInt8} (h : (frmE s).2 = true) : 14 ≤ (frmE s).1.length ∧ (frmE s).1.length ≤ s.length - 12 := by
  unfold frmE at *
  split at h
  · cases h
  · rename_i h1
    rw [if_neg h1]
    dsimp only
    rw [List.length_drop] at *
    omega
def netR (p : Nat) (bz : Int) (r1 q1 m1 : Nat) (l1 : Int) (r2 q2 m2 : Nat) (l2 : Int) : List Value := [.pointer (some ⟨p, 0, none⟩), .int .i64 bz, .pointer (some ⟨r1, 0, none⟩), .pointer (some ⟨q1, 0, none⟩), .map (some m1), .int .i64 l1, .pointer (some ⟨r2, 0, none⟩), .pointer (some ⟨q2, 0, none⟩), .map (some m2), .int .i64 l2]
theorem conf_spec  :
    Sat Try.prog 22 [] [] (fun u L' => u = .agg #[.int .i64 2, .int .i64 2, .int .i64 128] ∧ L' = []) := by
  all_goals
    refine Sat.enter Try.func22 rfl Try.ntmps22 rfl (fun c R => ?_)
    try simp only [List.cons_append, List.nil_append]
    repeat' (first
      | (exact Fini.of ⟨rfl, rfl⟩ (by repeat first | exact Imp.refl _ | (apply Imp.pull; focus ((repeat first | exact Del.head _ _ | apply Del.tail); done)) | apply Imp.drop))
      | refine And.intro (fun hc => ?_) (fun hc => ?_)
      | refine And.intro ?_ ?_
      | intro b
      | refine stp ?_
      | refine TQ.finC ?_
      | refine TQ.finC2 ?_
      | refine TQ.finC3 ?_
      | refine ⟨fun hc => ?_, fun hc => ?_⟩
      | refine Ei.f ?_
      | refine ⟨?_, ?_⟩
      | intro b
      | exact absurd rfl hc
      | exact absurd hc (by decide)
      | omega
      | (dsimp only; omega)
      | fail)
instance {L : List Assn} : FnR Try.prog 22 [] L (fun kk => kk (.agg #[.int .i64 2, .int .i64 2, .int .i64 128]) L) := ⟨fun kk h => ⟨[], L, _, conf_spec, .nil _, fun v L' hv => by rw [hv.1, hv.2]; exact h⟩⟩
theorem rounded_spec (n : Nat) (h : n ≤ 1048576) :
    Sat Try.prog 31 [.int .i64 (n : Nat)] [] (fun u L' => u = .int .i64 (rndN n : Nat) ∧ L' = []) := by
  all_goals
    refine Sat.enter Try.func31 rfl Try.ntmps31 rfl (fun c R => ?_)
    try simp only [List.cons_append, List.nil_append]
    repeat' (first
      | (exact Fini.of ⟨rfl, rfl⟩ (by repeat first | exact Imp.refl _ | (apply Imp.pull; focus ((repeat first | exact Del.head _ _ | apply Del.tail); done)) | apply Imp.drop))
      | refine And.intro (fun hc => ?_) (fun hc => ?_)
      | refine And.intro ?_ ?_
      | intro b
      | refine stp ?_
      | refine TQ.finC ?_
      | refine TQ.finC2 ?_
      | refine TQ.finC3 ?_
      | refine ⟨fun hc => ?_, fun hc => ?_⟩
      | refine Ei.f ?_
      | refine ⟨?_, ?_⟩
      | intro b
      | exact absurd rfl hc
      | exact absurd hc (by decide)
      | omega
      | (dsimp only; omega)
      | fail)
instance {L : List Assn} {x : Int} {n : Nat} [hx : Nn x n] : FnR Try.prog 31 [.int .i64 x] L (fun kk => Vc (n ≤ 1048576) (kk (.int .i64 (rndN n : Nat)) L)) := ⟨fun kk h => ⟨[], L, _, by rw [hx.h]; exact rounded_spec n h.l, .nil _, fun v L' hq => by rw [hq.1, hq.2]; exact h.r⟩⟩
theorem neg_spec  :
    Sat Try.prog 29 [.int .u64 4294967329] [] (fun u L' => u = .tuple #[.int .u64 4294967328, .int .i64 0] ∧ L' = []) := by
  all_goals
    refine Sat.enter Try.func29 rfl Try.ntmps29 rfl (fun c R => ?_)
    try simp only [List.cons_append, List.nil_append]
    repeat' (first
      | (exact Fini.of ⟨rfl, rfl⟩ (by repeat first | exact Imp.refl _ | (apply Imp.pull; focus ((repeat first | exact Del.head _ _ | apply Del.tail); done)) | apply Imp.drop))
      | refine And.intro (fun hc => ?_) (fun hc => ?_)
      | refine And.intro ?_ ?_
      | intro b
      | refine stp ?_
      | refine TQ.finC ?_
      | refine TQ.finC2 ?_
      | refine TQ.finC3 ?_
      | refine ⟨fun hc => ?_, fun hc => ?_⟩
      | refine Ei.f ?_
      | refine ⟨?_, ?_⟩
      | intro b
      | exact absurd rfl hc
      | exact absurd hc (by decide)
      | omega
      | (dsimp only; omega)
      | fail)
instance {L : List Assn} : FnR Try.prog 29 [.int .u64 4294967329] L (fun kk => kk (.tuple #[.int .u64 4294967328, .int .i64 0]) L) := ⟨fun kk h => ⟨[], L, _, neg_spec, .nil _, fun v L' hv => by rw [hv.1, hv.2]; exact h⟩⟩
theorem vsize_spec (a b z : Nat) (ha : a ≤ 64) (hb : b ≤ 64) (ha0 : 0 < sizeE (a : Nat)) (hb0 : 0 < sizeE (b : Nat)) (hz : 64 ≤ z) (hz2 : z ≤ 2048) :
    Sat Try.prog 8 [.agg #[.int .i64 (a : Nat), .int .i64 (b : Nat), .int .i64 (z : Nat)]] [] (fun u L' => u = .int .i64 (nszN a b z : Nat) ∧ L' = []) := by
  have ha1 := sizeE_le (a : Nat)
  have hb1 := sizeE_le (b : Nat)
  have ha2 := rnd_eq (sizeE (a : Nat))
  have hb2 := rnd_eq (sizeE (b : Nat))
  have hab : (a + b) * z ≤ 128 * 2048 := Nat.mul_le_mul (by omega) hz2
  all_goals
    refine Sat.enter Try.func8 rfl Try.ntmps8 rfl (fun c R => ?_)
    try simp only [List.cons_append, List.nil_append]
    repeat' (first
      | (exact Fini.of ⟨rfl, rfl⟩ (by repeat first | exact Imp.refl _ | (apply Imp.pull; focus ((repeat first | exact Del.head _ _ | apply Del.tail); done)) | apply Imp.drop))
      | refine T.pk 1 [2, 5] (.d 0 (.g 1 (.p 3 (.g 4 (.n 2 (.n 5 (.p 6 (.p 7 .fin)))))))) ?_
      | refine T.pk 4 [1, 3] (.p 0 (.p 2 (.p 5 (.g 6 (.p 7 (.g 8 (.p 9 (.p 10 (.g 11 (.p 12 (.n 1 (.n 3 (.p 4 (.p 13 (.p 14 .fin))))))))))))))) ?_
      | refine And.intro (fun hc => ?_) (fun hc => ?_)
      | refine And.intro ?_ ?_
      | intro b
      | refine stk ?_
      | refine stp ?_
      | refine TQ.finC ?_
      | refine TQ.finC2 ?_
      | refine TQ.finC3 ?_
      | refine ⟨fun hc => ?_, fun hc => ?_⟩
      | refine Ei.f ?_
      | refine ⟨?_, ?_⟩
      | intro b
      | exact absurd rfl hc
      | exact absurd hc (by decide)
      | omega
      | (dsimp only; omega)
      | fail)
theorem frame_spec (s : List UInt8) (h : s.length < 9223372036854775808) :
    Sat Try.prog 37 [str s] [] (fun u L' => u = .tuple #[str (frmE s).1, .bool (frmE s).2] ∧ L' = []) := by
  all_goals
    refine Sat.enter Try.func37 rfl Try.ntmps37 rfl (fun c R => ?_)
    try simp only [List.cons_append, List.nil_append]
    repeat' (first
      | (refine finAt ?_; exact Fini.of ⟨frm_no (by first | exact .inl (by assumption) | exact .inr (by assumption)), rfl⟩ (by repeat first | exact Imp.refl _ | (apply Imp.pull; focus ((repeat first | exact Del.head _ _ | apply Del.tail); done)) | apply Imp.drop))
      | (refine finAt ?_; exact Fini.of ⟨frm_n2 (by assumption) (by assumption) (by assumption), rfl⟩ (by repeat first | exact Imp.refl _ | (apply Imp.pull; focus ((repeat first | exact Del.head _ _ | apply Del.tail); done)) | apply Imp.drop))
      | (refine finAt ?_; exact Fini.of ⟨frm_ok (by assumption) (by assumption) (by assumption), rfl⟩ (by repeat first | exact Imp.refl _ | (apply Imp.pull; focus ((repeat first | exact Del.head _ _ | apply Del.tail); done)) | apply Imp.drop))
      | exact (by rw [List.length_take]; have := List.length_drop (i := min s.length 12) (l := s); omega)
      | refine T.pl 1 [] (.p 0 (.p 1 (.p 2 (.p 3 (.p 4 (.p 5 (.p 6 (.p 7 (.p 8 (.p 9 (.p 10 (.p 11 .fin)))))))))))) ?_
      | refine T.pl 4 [] (.p 0 (.p 1 (.p 2 (.p 3 (.p 4 (.p 5 (.p 6 (.p 7 (.p 8 (.p 9 (.p 10 .fin))))))))))) ?_
      | refine And.intro (fun hc => ?_) (fun hc => ?_)
      | refine And.intro ?_ ?_
      | intro b
      | refine stp ?_
      | refine TQ.finC ?_
      | refine TQ.finC2 ?_
      | refine TQ.finC3 ?_
      | refine ⟨fun hc => ?_, fun hc => ?_⟩
      | refine Ei.f ?_
      | refine ⟨?_, ?_⟩
      | intro b
      | exact absurd rfl hc
      | exact absurd hc (by decide)
      | omega
      | (dsimp only; omega)
      | fail)
instance {L : List Assn} {s : List UInt8} : FnR Try.prog 37 [str s] L (fun kk => Vc (s.length < 9223372036854775808) (kk (.tuple #[str (frmE s).1, .bool (frmE s).2]) L)) := ⟨fun kk h => ⟨[], L, _, frame_spec s h.l, .nil _, fun v L' hq => by rw [hq.1, hq.2]; exact h.r⟩⟩
theorem rx_spec (n p r1 q1 m1 r2 q2 m2 : Nat) (bz l1 l2 : Int) :
    Sat Try.prog 10 [.pointer (some ⟨n, 0, none⟩)] [row 81 n [.pointer (some ⟨p, 0, none⟩), .int .i64 bz, .pointer (some ⟨r1, 0, none⟩), .pointer (some ⟨q1, 0, none⟩), .map (some m1), .int .i64 l1, .pointer (some ⟨r2, 0, none⟩), .pointer (some ⟨q2, 0, none⟩), .map (some m2), .int .i64 l2]] (fun u L' => u = .pointer (some ⟨r1, 0, none⟩) ∧ L' = [row 81 n [.pointer (some ⟨p, 0, none⟩), .int .i64 bz, .pointer (some ⟨r1, 0, none⟩), .pointer (some ⟨q1, 0, none⟩), .map (some m1), .int .i64 l1, .pointer (some ⟨r2, 0, none⟩), .pointer (some ⟨q2, 0, none⟩), .map (some m2), .int .i64 l2]]) := by
  all_goals
    refine Sat.enter Try.func10 rfl Try.ntmps10 rfl (fun c R => ?_)
    try simp only [List.cons_append, List.nil_append]
    repeat' (first
      | (exact Fini.of ⟨rfl, rfl⟩ (by repeat first | exact Imp.refl _ | (apply Imp.pull; focus ((repeat first | exact Del.head _ _ | apply Del.tail); done)) | apply Imp.drop))
      | refine And.intro (fun hc => ?_) (fun hc => ?_)
      | refine And.intro ?_ ?_
      | intro b
      | refine stp ?_
      | refine TQ.finC ?_
      | refine TQ.finC2 ?_
      | refine TQ.finC3 ?_
      | refine ⟨fun hc => ?_, fun hc => ?_⟩
      | refine Ei.f ?_
      | refine ⟨?_, ?_⟩
      | intro b
      | exact absurd rfl hc
      | exact absurd hc (by decide)
      | omega
      | (dsimp only; omega)
      | fail)
instance {L R : List Assn} {n p r1 q1 m1 r2 q2 m2 : Nat} {bz l1 l2 : Int} [h1 : RowDel L n 81 [.pointer (some ⟨p, 0, none⟩), .int .i64 bz, .pointer (some ⟨r1, 0, none⟩), .pointer (some ⟨q1, 0, none⟩), .map (some m1), .int .i64 l1, .pointer (some ⟨r2, 0, none⟩), .pointer (some ⟨q2, 0, none⟩), .map (some m2), .int .i64 l2] R] : FnR Try.prog 10 [.pointer (some ⟨n, 0, none⟩)] L (fun kk => kk (.pointer (some ⟨r1, 0, none⟩)) (row 81 n [.pointer (some ⟨p, 0, none⟩), .int .i64 bz, .pointer (some ⟨r1, 0, none⟩), .pointer (some ⟨q1, 0, none⟩), .map (some m1), .int .i64 l1, .pointer (some ⟨r2, 0, none⟩), .pointer (some ⟨q2, 0, none⟩), .map (some m2), .int .i64 l2] :: R)) := ⟨fun kk h => ⟨_, R, _, rx_spec n p r1 q1 m1 r2 q2 m2 bz l1 l2, .cons h1.h (.nil _), fun v L' hv => by rw [hv.1, hv.2]; exact h⟩⟩
theorem rx_nil  :
    Sat Try.prog 10 [.pointer none] [] (fun u L' => u = .pointer none ∧ L' = []) := by
  all_goals
    refine Sat.enter Try.func10 rfl Try.ntmps10 rfl (fun c R => ?_)
    try simp only [List.cons_append, List.nil_append]
    repeat' (first
      | (exact Fini.of ⟨rfl, rfl⟩ (by repeat first | exact Imp.refl _ | (apply Imp.pull; focus ((repeat first | exact Del.head _ _ | apply Del.tail); done)) | apply Imp.drop))
      | refine And.intro (fun hc => ?_) (fun hc => ?_)
      | refine And.intro ?_ ?_
      | intro b
      | refine stp ?_
      | refine TQ.finC ?_
      | refine TQ.finC2 ?_
      | refine TQ.finC3 ?_
      | refine ⟨fun hc => ?_, fun hc => ?_⟩
      | refine Ei.f ?_
      | refine ⟨?_, ?_⟩
      | intro b
      | exact absurd rfl hc
      | exact absurd hc (by decide)
      | omega
      | (dsimp only; omega)
      | fail)
instance {L : List Assn} : FnR Try.prog 10 [.pointer none] L (fun kk => kk (.pointer none) L) := ⟨fun kk h => ⟨[], L, _, rx_nil, .nil _, fun v L' hv => by rw [hv.1, hv.2]; exact h⟩⟩
theorem tx_spec (n p r1 q1 m1 r2 q2 m2 : Nat) (bz l1 l2 : Int) :
    Sat Try.prog 11 [.pointer (some ⟨n, 0, none⟩)] [row 81 n [.pointer (some ⟨p, 0, none⟩), .int .i64 bz, .pointer (some ⟨r1, 0, none⟩), .pointer (some ⟨q1, 0, none⟩), .map (some m1), .int .i64 l1, .pointer (some ⟨r2, 0, none⟩), .pointer (some ⟨q2, 0, none⟩), .map (some m2), .int .i64 l2]] (fun u L' => u = .pointer (some ⟨r2, 0, none⟩) ∧ L' = [row 81 n [.pointer (some ⟨p, 0, none⟩), .int .i64 bz, .pointer (some ⟨r1, 0, none⟩), .pointer (some ⟨q1, 0, none⟩), .map (some m1), .int .i64 l1, .pointer (some ⟨r2, 0, none⟩), .pointer (some ⟨q2, 0, none⟩), .map (some m2), .int .i64 l2]]) := by
  all_goals
    refine Sat.enter Try.func11 rfl Try.ntmps11 rfl (fun c R => ?_)
    try simp only [List.cons_append, List.nil_append]
    repeat' (first
      | (exact Fini.of ⟨rfl, rfl⟩ (by repeat first | exact Imp.refl _ | (apply Imp.pull; focus ((repeat first | exact Del.head _ _ | apply Del.tail); done)) | apply Imp.drop))
      | refine And.intro (fun hc => ?_) (fun hc => ?_)
      | refine And.intro ?_ ?_
      | intro b
      | refine stp ?_
      | refine TQ.finC ?_
      | refine TQ.finC2 ?_
      | refine TQ.finC3 ?_
      | refine ⟨fun hc => ?_, fun hc => ?_⟩
      | refine Ei.f ?_
      | refine ⟨?_, ?_⟩
      | intro b
      | exact absurd rfl hc
      | exact absurd hc (by decide)
      | omega
      | (dsimp only; omega)
      | fail)
instance {L R : List Assn} {n p r1 q1 m1 r2 q2 m2 : Nat} {bz l1 l2 : Int} [h1 : RowDel L n 81 [.pointer (some ⟨p, 0, none⟩), .int .i64 bz, .pointer (some ⟨r1, 0, none⟩), .pointer (some ⟨q1, 0, none⟩), .map (some m1), .int .i64 l1, .pointer (some ⟨r2, 0, none⟩), .pointer (some ⟨q2, 0, none⟩), .map (some m2), .int .i64 l2] R] : FnR Try.prog 11 [.pointer (some ⟨n, 0, none⟩)] L (fun kk => kk (.pointer (some ⟨r2, 0, none⟩)) (row 81 n [.pointer (some ⟨p, 0, none⟩), .int .i64 bz, .pointer (some ⟨r1, 0, none⟩), .pointer (some ⟨q1, 0, none⟩), .map (some m1), .int .i64 l1, .pointer (some ⟨r2, 0, none⟩), .pointer (some ⟨q2, 0, none⟩), .map (some m2), .int .i64 l2] :: R)) := ⟨fun kk h => ⟨_, R, _, tx_spec n p r1 q1 m1 r2 q2 m2 bz l1 l2, .cons h1.h (.nil _), fun v L' hv => by rw [hv.1, hv.2]; exact h⟩⟩
theorem tx_nil  :
    Sat Try.prog 11 [.pointer none] [] (fun u L' => u = .pointer none ∧ L' = []) := by
  all_goals
    refine Sat.enter Try.func11 rfl Try.ntmps11 rfl (fun c R => ?_)
    try simp only [List.cons_append, List.nil_append]
    repeat' (first
      | (exact Fini.of ⟨rfl, rfl⟩ (by repeat first | exact Imp.refl _ | (apply Imp.pull; focus ((repeat first | exact Del.head _ _ | apply Del.tail); done)) | apply Imp.drop))
      | refine And.intro (fun hc => ?_) (fun hc => ?_)
      | refine And.intro ?_ ?_
      | intro b
      | refine stp ?_
      | refine TQ.finC ?_
      | refine TQ.finC2 ?_
      | refine TQ.finC3 ?_
      | refine ⟨fun hc => ?_, fun hc => ?_⟩
      | refine Ei.f ?_
      | refine ⟨?_, ?_⟩
      | intro b
      | exact absurd rfl hc
      | exact absurd hc (by decide)
      | omega
      | (dsimp only; omega)
      | fail)
instance {L : List Assn} : FnR Try.prog 11 [.pointer none] L (fun kk => kk (.pointer none) L) := ⟨fun kk h => ⟨[], L, _, tx_nil, .nil _, fun v L' hv => by rw [hv.1, hv.2]; exact h⟩⟩
theorem lost_spec (n p r1 q1 m1 r2 q2 m2 : Nat) (bz l1 l2 : Int) :
    Sat Try.prog 21 [.pointer (some ⟨n, 0, none⟩)] [row 81 n [.pointer (some ⟨p, 0, none⟩), .int .i64 bz, .pointer (some ⟨r1, 0, none⟩), .pointer (some ⟨q1, 0, none⟩), .map (some m1), .int .i64 l1, .pointer (some ⟨r2, 0, none⟩), .pointer (some ⟨q2, 0, none⟩), .map (some m2), .int .i64 l2]] (fun u L' => u = .tuple #[.int .i64 l1, .int .i64 l2] ∧ L' = [row 81 n [.pointer (some ⟨p, 0, none⟩), .int .i64 bz, .pointer (some ⟨r1, 0, none⟩), .pointer (some ⟨q1, 0, none⟩), .map (some m1), .int .i64 l1, .pointer (some ⟨r2, 0, none⟩), .pointer (some ⟨q2, 0, none⟩), .map (some m2), .int .i64 l2]]) := by
  all_goals
    refine Sat.enter Try.func21 rfl Try.ntmps21 rfl (fun c R => ?_)
    try simp only [List.cons_append, List.nil_append]
    repeat' (first
      | (exact Fini.of ⟨rfl, rfl⟩ (by repeat first | exact Imp.refl _ | (apply Imp.pull; focus ((repeat first | exact Del.head _ _ | apply Del.tail); done)) | apply Imp.drop))
      | refine T.pl 3 [] (.p 0 (.p 1 (.p 5 (.p 6 (.d 2 (.d 3 (.d 4 (.p 10 (.d 7 (.d 8 (.d 9 (.p 11 .fin)))))))))))) ?_
      | refine And.intro (fun hc => ?_) (fun hc => ?_)
      | refine And.intro ?_ ?_
      | intro b
      | refine stp ?_
      | refine TQ.finC ?_
      | refine TQ.finC2 ?_
      | refine TQ.finC3 ?_
      | refine ⟨fun hc => ?_, fun hc => ?_⟩
      | refine Ei.f ?_
      | refine ⟨?_, ?_⟩
      | intro b
      | exact absurd rfl hc
      | exact absurd hc (by decide)
      | omega
      | (dsimp only; omega)
      | fail)
instance {L R : List Assn} {n p r1 q1 m1 r2 q2 m2 : Nat} {bz l1 l2 : Int} [h1 : RowDel L n 81 [.pointer (some ⟨p, 0, none⟩), .int .i64 bz, .pointer (some ⟨r1, 0, none⟩), .pointer (some ⟨q1, 0, none⟩), .map (some m1), .int .i64 l1, .pointer (some ⟨r2, 0, none⟩), .pointer (some ⟨q2, 0, none⟩), .map (some m2), .int .i64 l2] R] : FnR Try.prog 21 [.pointer (some ⟨n, 0, none⟩)] L (fun kk => kk (.tuple #[.int .i64 l1, .int .i64 l2]) (row 81 n [.pointer (some ⟨p, 0, none⟩), .int .i64 bz, .pointer (some ⟨r1, 0, none⟩), .pointer (some ⟨q1, 0, none⟩), .map (some m1), .int .i64 l1, .pointer (some ⟨r2, 0, none⟩), .pointer (some ⟨q2, 0, none⟩), .map (some m2), .int .i64 l2] :: R)) := ⟨fun kk h => ⟨_, R, _, lost_spec n p r1 q1 m1 r2 q2 m2 bz l1 l2, .cons h1.h (.nil _), fun v L' hv => by rw [hv.1, hv.2]; exact h⟩⟩
theorem lost_nil  :
    Sat Try.prog 21 [.pointer none] [] (fun u L' => u = .tuple #[.int .i64 0, .int .i64 0] ∧ L' = []) := by
  all_goals
    refine Sat.enter Try.func21 rfl Try.ntmps21 rfl (fun c R => ?_)
    try simp only [List.cons_append, List.nil_append]
    repeat' (first
      | (exact Fini.of ⟨rfl, rfl⟩ (by repeat first | exact Imp.refl _ | (apply Imp.pull; focus ((repeat first | exact Del.head _ _ | apply Del.tail); done)) | apply Imp.drop))
      | refine T.pl 3 [] (.p 0 (.p 1 (.p 5 (.p 6 (.d 2 (.d 3 (.d 4 (.p 10 (.d 7 (.d 8 (.d 9 (.p 11 .fin)))))))))))) ?_
      | refine And.intro (fun hc => ?_) (fun hc => ?_)
      | refine And.intro ?_ ?_
      | intro b
      | refine stp ?_
      | refine TQ.finC ?_
      | refine TQ.finC2 ?_
      | refine TQ.finC3 ?_
      | refine ⟨fun hc => ?_, fun hc => ?_⟩
      | refine Ei.f ?_
      | refine ⟨?_, ?_⟩
      | intro b
      | exact absurd rfl hc
      | exact absurd hc (by decide)
      | omega
      | (dsimp only; omega)
      | fail)
instance {L : List Assn} : FnR Try.prog 21 [.pointer none] L (fun kk => kk (.tuple #[.int .i64 0, .int .i64 0]) L) := ⟨fun kk h => ⟨[], L, _, lost_nil, .nil _, fun v L' hv => by rw [hv.1, hv.2]; exact h⟩⟩
theorem imp_rp {v : Value} {n : Nat} {c : UInt8} {L R : List Assn} (h : Del (Pw.sl 5 (0 + 1) v n ((List.replicate n 0).map byteV)) L R) : Imp L (Pw.sl 5 (0 + 1) v n ((List.replicate 0 c ++ List.replicate (n - 0) 0).map byteV) :: R) := by
  rw [List.replicate_zero, List.nil_append, Nat.sub_zero]
  exact Imp.pull h (Imp.refl R)
theorem rep_set {n i : Nat} {c : UInt8} (h : i < n) : (List.replicate i c ++ List.replicate (n - i) 0).set i c = List.replicate (i + 1) c ++ List.replicate (n - (i + 1)) 0 := by
  rw [List.set_append_right _ _ (by simp), List.length_replicate, Nat.sub_self, show n - i = (n - (i + 1)) + 1 by omega, List.replicate_succ, List.set_cons_zero, List.replicate_succ', List.append_assoc]; rfl
theorem lframe_spec (n : Nat) (ch : UInt8) (hn : n ≤ 1048576) :
    Sat Try.prog 13 [.int .i64 n, byteV ch] [] (fun u L' => u = str (List.replicate n ch) ∧ L' = []) := by
  have hgo : True := trivial
  all_goals
    refine Sat.enter Try.func13 rfl Try.ntmps13 rfl (fun c R => ?_)
    try simp only [List.cons_append, List.nil_append]
    repeat' (first
      | (refine T.atB 0 ?_; obtain ⟨b5, hb5⟩ : ∃ x, x = b := ⟨_, rfl⟩; subst hb5; refine T.ent (Ent.imp (imp_rp (c := ch) (by repeat first | exact Del.head _ _ | apply Del.tail))) ?_; refine T.lpa 0 [(0, _), (1, _), (5, _)] (0 : Nat) (fun i => [(6, .int .i64 (i : Nat))]) (fun i => [Pw.sl 5 (0 + 1) (.slice (some ⟨b5, 0, none⟩) n n) n ((List.replicate i ch ++ List.replicate (n - i) 0).map byteV)]) (fun i => i ≤ n) (fun i => n - i) (Nat.zero_le _) ?_; rintro i g hi; have hll : i < n → i < (List.replicate i ch ++ List.replicate (n - i) (0 : UInt8)).length := (fun h => by rw [List.length_append, List.length_replicate, List.length_replicate]; omega); simp only [List.cons_append, List.nil_append, appR])
      | (refine TQ.atL ?_; rw [rep_set (by assumption)]; refine TQ.rd (i + 1 : Nat) rfl (by repeat first | exact trivial | refine ⟨rfl, ?_⟩) (by first | omega | fail) (by omega) (Ent.imp (by repeat first | exact Imp.refl _ | (apply Imp.pull; focus ((repeat first | exact Del.head _ _ | apply Del.tail); done)) | apply Imp.drop)))
      | (refine T.atR 6 ?_; clear hgo; obtain rfl : i = n := (by omega); rw [Nat.sub_self, List.replicate_zero, List.append_nil])
      | (exact Fini.of ⟨rfl, rfl⟩ (by repeat first | exact Imp.refl _ | (apply Imp.pull; focus ((repeat first | exact Del.head _ _ | apply Del.tail); done)) | apply Imp.drop))
      | exact hll (by assumption)
      | refine And.intro (fun hc => ?_) (fun hc => ?_)
      | refine And.intro ?_ ?_
      | intro b
      | refine stp ?_
      | refine TQ.finC ?_
      | refine TQ.finC2 ?_
      | refine TQ.finC3 ?_
      | refine ⟨fun hc => ?_, fun hc => ?_⟩
      | refine Ei.f ?_
      | refine ⟨?_, ?_⟩
      | intro b
      | exact absurd rfl hc
      | exact absurd hc (by decide)
      | omega
      | (dsimp only; omega)
      | fail)
instance {L : List Assn} {x y : Int} {n c : Nat} [hx : Nn x n] [hy : Nn y c] : FnR Try.prog 13 [.int .i64 x, .int .u8 y] L (fun kk => Vc (n ≤ 1048576 ∧ c < 256) (kk (str (List.replicate n (UInt8.ofNat c))) L)) :=
  ⟨fun kk h => ⟨[], L, _, by
    have e : Value.int .u8 y = byteV (UInt8.ofNat c) := by rw [hy.h]; simp [byteV, Nat.mod_eq_of_lt h.l.2]
    rw [e, hx.h]; exact lframe_spec n (UInt8.ofNat c) h.l.1, .nil _, fun v L' hq => by rw [hq.1, hq.2]; exact h.r⟩⟩

end Go.Proofs.Ytimaecgdahmmdaa

