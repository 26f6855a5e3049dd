/- Lemmas for the proofs of this seat: no statement of the seat is claimed here. -/
import Derived.Test.YtcidilijlgaohaaDoorA14
set_option linter.all false
namespace Go.Proofs.YtcidilijlgaohaaDoor
open Go Pw
set_option maxRecDepth 20000
set_option maxHeartbeats 4000000
set_option maxHeartbeats 1000000

def wordK (key : List UInt8) (i : Nat) : Nat := leE ((key.drop (8 * i)).take 8)
theorem wordK_lt (key : List UInt8) (i : Nat) : wordK key i < 18446744073709551616 := leE_lt64 (by rw [List.length_take]; omega)
instance {L R : List Assn} {p i : Nat} {z : Int} {key : List UInt8} [hz : Nn z i] [hd : RowDel L p 9 [str key] R] : FnR Tryd.prog 24 [.int .i64 z, .pointer (some ⟨p, 0, none⟩)] L (fun q => Vc (key.length = 32 ∧ i < 4) (q (.int .u64 (wordK key i : Nat)) (row 9 p [str key] :: R))) :=
  ⟨fun q h => ⟨_, R, _, by rw [hz.h]; exact word_spec p i key h.l.1 h.l.2, Pick.of1 hd.h, fun v L' hq => by rw [hq.1, hq.2]; exact h.r⟩⟩
def rE0 (key : List UInt8) : Nat := wordK key 0 &&& 1152921487695413247
def rE1 (key : List UInt8) : Nat := wordK key 1 &&& 1152921487695413244
theorem rE0_lt (key : List UInt8) : rE0 key < 1152921504606846976 := Nat.lt_of_le_of_lt Nat.and_le_right (by decide)
theorem rE1_lt (key : List UInt8) : rE1 key < 1152921504606846976 := Nat.lt_of_le_of_lt Nat.and_le_right (by decide)
/-- What stands at the end. -/
def endE (a w2 w3 : Nat) : Nat := (if 3 < (foldE a + 5) / 340282366920938463463374607431768211456 % 18446744073709551616 then foldE a + 5 else foldE a) + (w2 + 18446744073709551616 * w3)
def sixE (z : Nat) : List UInt8 := leB (z % 18446744073709551616) 8 ++ leB (z / 18446744073709551616 % 18446744073709551616) 8
def tagE (key s : List UInt8) : List UInt8 := sixE (endE (accE (rE0 key) (rE1 key) s ((s.length + 15) / 16)) (wordK key 2) (wordK key 3))
def TagE (key s : List UInt8) : List UInt8 × Nat := if key.length = 32 then (tagE key s, 0) else ([], 2)
theorem tag_t {a w2 w3 : Nat} (h : 3 < (foldE a + 5) / 340282366920938463463374607431768211456 % 18446744073709551616) : foldE a + 5 + (w2 + 18446744073709551616 * w3) = endE a w2 w3 := by rw [endE, if_pos h]
theorem tag_f {a w2 w3 : Nat} (h : ¬ 3 < (foldE a + 5) / 340282366920938463463374607431768211456 % 18446744073709551616) : foldE a + (w2 + 18446744073709551616 * w3) = endE a w2 w3 := by rw [endE, if_neg h]
theorem acc0 {r0 r1 : Nat} {s : List UInt8} : numV (accE r0 r1 s 0) = [.int .u64 0, .int .u64 0, .int .u64 0] := by simp [numV, accE]
theorem tag_fin_t {key tx : List UInt8} {a : Nat} (hk : ¬ key.length ≠ 32) (hacc : accE (rE0 key) (rE1 key) tx ((tx.length + 15) / 16) = a) (h : 3 < (foldE a + (5 + 18446744073709551616 * 0 + 340282366920938463463374607431768211456 * 0)) / 340282366920938463463374607431768211456 % 18446744073709551616) : asResult [str (leB ((foldE a + (5 + 18446744073709551616 * 0 + 340282366920938463463374607431768211456 * 0) + (wordK key 2 + 18446744073709551616 * wordK key 3 + 340282366920938463463374607431768211456 * 0)) % 18446744073709551616) 8 ++ leB ((foldE a + (5 + 18446744073709551616 * 0 + 340282366920938463463374607431768211456 * 0) + (wordK key 2 + 18446744073709551616 * wordK key 3 + 340282366920938463463374607431768211456 * 0)) / 18446744073709551616 % 18446744073709551616) 8), .int .i64 0] = asResult [str (TagE key tx).1, .int .i64 ((TagE key tx).2 : Nat)] := by
  rw [TagE, if_pos (Decidable.not_not.1 hk)]
  dsimp only [tagE, sixE]
  rw [hacc, ← tag_t h]
  rfl
theorem tag_fin_f {key tx : List UInt8} {a : Nat} (hk : ¬ key.length ≠ 32) (hacc : accE (rE0 key) (rE1 key) tx ((tx.length + 15) / 16) = a) (h : ¬ 3 < (foldE a + (5 + 18446744073709551616 * 0 + 340282366920938463463374607431768211456 * 0)) / 340282366920938463463374607431768211456 % 18446744073709551616) : asResult [str (leB ((foldE a + (wordK key 2 + 18446744073709551616 * wordK key 3 + 340282366920938463463374607431768211456 * 0)) % 18446744073709551616) 8 ++ leB ((foldE a + (wordK key 2 + 18446744073709551616 * wordK key 3 + 340282366920938463463374607431768211456 * 0)) / 18446744073709551616 % 18446744073709551616) 8), .int .i64 0] = asResult [str (TagE key tx).1, .int .i64 ((TagE key tx).2 : Nat)] := by
  rw [TagE, if_pos (Decidable.not_not.1 hk)]
  dsimp only [tagE, sixE]
  rw [hacc, ← tag_f h]
  rfl
attribute [local irreducible] wordK rE0 rE1 foldE accE endE leB
theorem Tag_spec (key tx : List UInt8) (hn : tx.length < 4294967296) :
    Sat Tryd.prog 13 [str key, str tx] [] (fun u L' => u = asResult [str (TagE key tx).1, .int .i64 (TagE key tx).2] ∧ L' = []) := by
  have hr0 : wordK key 0 &&& 1152921487695413247 = rE0 key := by unfold rE0; rfl
  have hr1 : wordK key 1 &&& 1152921487695413244 = rE1 key := by unfold rE1; rfl
  all_goals
    refine Sat.enter Tryd.func13 rfl Tryd.ntmps13 rfl (fun c R => ?_)
    try simp only [List.cons_append, List.nil_append]
    repeat' (first
      | (refine T.atG ?_; rename_i b2 b7 b8 yb k0 bs; obtain ⟨bn, hbn⟩ : ∃ bn, bn = b := ⟨_, rfl⟩; subst hbn; rw [hr0, hr1]; refine T.open_sl (e := 5) (by repeat (first | exact Del.head _ _ | apply Del.tail)) (fun h _ _ => by cases h) (fun y9 k9 rest e1 e2 e3 => ?_); cases e1; refine T.rng (A := row 35 bs [.slice (some ⟨yb, 0, none⟩) tx.length (tx.length + k9)] :: row 3 bn [.int .i64 ((16 : Nat) : Int)] :: [row 5 yb (tx.map byteV ++ rest), row 54 b8 [.int .u64 0, .int .u64 0, .int .u64 0], row 52 b7 [.int .u64 (rE0 key : Nat), .int .u64 (rE1 key : Nat)]]) (first := []) (cap := [.pointer (some ⟨bs, 0, none⟩), .pointer (some ⟨bn, 0, none⟩)]) rfl Tryd.call42 (PickC.h) (fun L1 => L1 = row 35 bs [.slice (some ⟨yb, 0, none⟩) tx.length (tx.length + k9)] :: row 3 bn [.int .i64 ((16 : Nat) : Int)] :: (fun j => [row 5 yb (tx.map byteV ++ rest), row 54 b8 (numV (accE (rE0 key) (rE1 key) tx j)), row 52 b7 [.int .u64 (rE0 key : Nat), .int .u64 (rE1 key : Nat)]]) ((tx.length + 15) / 16)) ?_ ?_)
      | (intro l m fn; have hH : [row 5 yb (tx.map byteV ++ rest), row 54 b8 [.int .u64 0, .int .u64 0, .int .u64 0], row 52 b7 [.int .u64 (rE0 key : Nat), .int .u64 (rE1 key : Nat)]] = (fun j => [row 5 yb (tx.map byteV ++ rest), row 54 b8 (numV (accE (rE0 key) (rE1 key) tx j)), row 52 b7 [.int .u64 (rE0 key : Nat), .int .u64 (rE1 key : Nat)]]) 0 := (by dsimp only; rw [acc0]); rw [hH]; refine SatC.post (chunk16_spec yb tx.length (tx.length + k9) bs bn (fun j => [row 5 yb (tx.map byteV ++ rest), row 54 b8 (numV (accE (rE0 key) (rE1 key) tx j)), row 52 b7 [.int .u64 (rE0 key : Nat), .int .u64 (rE1 key : Nat)]]) hn (by omega) rfl rfl rfl (fun j hj => Yl.of1 (fun R => ?_))) (fun v L' h => ⟨_, rfl, h⟩); simp only [List.cons_append, List.nil_append])
      | (refine TQ.thenR ?_)
      | (refine T.atB 1 ?_; refine T.useE (fun g => tag_round yb b7 b8 j (rE0 key) (rE1 key) tx rest (rE0_lt key) (rE1_lt key) hn hj))
      | (intro m L1 hL1; subst hL1; have ha := accE_lt (s := tx) (rE0_lt key) (rE1_lt key) ((tx.length + 15) / 16); simp only [List.cons_append, List.nil_append]; generalize hacc : accE (rE0 key) (rE1 key) tx ((tx.length + 15) / 16) = a at *; refine Hold.h ?_)
      | exact wordK_lt key _
      | exact Fini.mk ⟨by rw [TagE, if_neg hc]; rfl, rfl⟩
      | refine T.pl 10 [1, 3, 8, 9] (.p 0 (.p 2 (.p 4 (.b3 1 (.b3 3 (.b2 5 (.p 6 (.p 7 (.n 8 (.n 9 .fin)))) 8 (.d 5 (.p 6 (.p 7 (.n 9 .fin))))) 5 (.p 6 (.b2 3 (.p 7 (.n 8 (.n 9 .fin))) 8 (.n 3 (.p 7 (.n 9 .fin))))) 8 (.b2 3 (.d 5 (.p 6 (.p 7 (.n 9 .fin)))) 5 (.p 6 (.n 3 (.p 7 (.n 9 .fin)))))) 5 (.p 6 (.b2 1 (.b2 3 (.p 7 (.n 8 (.n 9 .fin))) 8 (.n 3 (.p 7 (.n 9 .fin)))) 8 (.n 1 (.n 3 (.p 7 (.n 9 .fin)))))) 8 (.b2 1 (.b2 3 (.d 5 (.p 6 (.p 7 (.n 9 .fin)))) 5 (.p 6 (.n 3 (.p 7 (.n 9 .fin))))) 5 (.p 6 (.n 1 (.n 3 (.p 7 (.n 9 .fin)))))))))) ?_
      | refine T.pl 11 [2, 4, 5] (.d 0 (.d 1 (.b2 2 (.d 3 (.n 4 (.n 5 .fin))) 3 (.n 2 (.n 4 (.n 5 .fin)))))) ?_
      | refine T.pl 16 [2, 4, 6, 7] (.p 1 (.p 3 (.b2 0 (.n 2 (.n 4 (.p 5 (.n 6 (.n 7 .fin))))) 2 (.b2 0 (.n 4 (.p 5 (.n 6 (.n 7 .fin)))) 4 (.p 5 (.d 0 (.n 6 (.n 7 .fin)))))))) ?_
      | refine T.pl 17 [2, 5] (.p 0 (.p 3 (.d 1 (.b2 2 (.d 4 (.n 5 (.d 6 (.p 7 (.p 8 .fin))))) 4 (.n 2 (.n 5 (.d 6 (.p 7 (.p 8 .fin))))))))) ?_
      | refine And.intro (fun hc => ?_) (fun hc => ?_)
      | refine And.intro ?_ ?_
      | intro b
      | refine stp ?_
      | refine TQ.finC ?_
      | refine ⟨fun hc => ?_, fun hc => ?_⟩
      | refine Ei.f ?_
      | refine ⟨?_, ?_⟩
      | intro b
      | omega
      | (dsimp only; omega)
      | fail)
  all_goals try refine Hold.mk ?_
  repeat' (first
    | exact wordK_lt key _
    | (refine Vc.mk ⟨by omega, by decide⟩ ?_)
    | exact trivial
    | exact (leB_len _ _).symm
    | (refine TQ.atRet ?_; first | exact TQ.finM (Fini.mk ⟨tag_fin_t ‹_› hacc hc, rfl⟩) | exact TQ.finM (Fini.mk ⟨tag_fin_f ‹_› hacc hc, rfl⟩))
    | refine T.pl 10 [1, 3, 8, 9] (.p 0 (.p 2 (.p 4 (.b3 1 (.b3 3 (.b2 5 (.p 6 (.p 7 (.n 8 (.n 9 .fin)))) 8 (.d 5 (.p 6 (.p 7 (.n 9 .fin))))) 5 (.p 6 (.b2 3 (.p 7 (.n 8 (.n 9 .fin))) 8 (.n 3 (.p 7 (.n 9 .fin))))) 8 (.b2 3 (.d 5 (.p 6 (.p 7 (.n 9 .fin)))) 5 (.p 6 (.n 3 (.p 7 (.n 9 .fin)))))) 5 (.p 6 (.b2 1 (.b2 3 (.p 7 (.n 8 (.n 9 .fin))) 8 (.n 3 (.p 7 (.n 9 .fin)))) 8 (.n 1 (.n 3 (.p 7 (.n 9 .fin)))))) 8 (.b2 1 (.b2 3 (.d 5 (.p 6 (.p 7 (.n 9 .fin)))) 5 (.p 6 (.n 3 (.p 7 (.n 9 .fin))))) 5 (.p 6 (.n 1 (.n 3 (.p 7 (.n 9 .fin)))))))))) ?_
    | refine T.pl 11 [2, 4, 5] (.d 0 (.d 1 (.b2 2 (.d 3 (.n 4 (.n 5 .fin))) 3 (.n 2 (.n 4 (.n 5 .fin)))))) ?_
    | refine T.pl 16 [2, 4, 6, 7] (.p 1 (.p 3 (.b2 0 (.n 2 (.n 4 (.p 5 (.n 6 (.n 7 .fin))))) 2 (.b2 0 (.n 4 (.p 5 (.n 6 (.n 7 .fin)))) 4 (.p 5 (.d 0 (.n 6 (.n 7 .fin)))))))) ?_
    | refine T.pl 17 [2, 5] (.p 0 (.p 3 (.d 1 (.b2 2 (.d 4 (.n 5 (.d 6 (.p 7 (.p 8 .fin))))) 4 (.n 2 (.n 5 (.d 6 (.p 7 (.p 8 .fin))))))))) ?_
    | refine And.intro (fun hc => ?_) (fun hc => ?_)
    | refine And.intro ?_ ?_
    | intro b
    | refine stp ?_
    | refine TQ.finC ?_
    | refine ⟨fun hc => ?_, fun hc => ?_⟩
    | refine Ei.f ?_
    | refine ⟨?_, ?_⟩
    | intro b
    | omega
    | (dsimp only; omega)
    | fail)

end Go.Proofs.YtcidilijlgaohaaDoor
