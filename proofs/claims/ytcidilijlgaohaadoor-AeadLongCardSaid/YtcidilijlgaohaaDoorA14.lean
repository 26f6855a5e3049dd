/- Lemmas for the proofs of this seat: no statement of the seat is claimed here. -/
import Derived.Test.YtcidilijlgaohaaDoorA13
import Derived.Test.YtcidilijlgaohaaDoorPxH
set_option linter.all false
namespace Go.Proofs.YtcidilijlgaohaaDoor
open Go Pw
set_option maxRecDepth 20000
set_option maxHeartbeats 4000000
set_option maxHeartbeats 4000000

theorem lt256 : ((0 : Nat) < 256) = True := by simp
theorem accE_s {r0 r1 j : Nat} {s : List UInt8} : timesE (accE r0 r1 s j + pieceE ((s.drop (16 * j)).take 16)) r0 r1 = accE r0 r1 s (j + 1) := rfl
attribute [local irreducible] timesE foldE pieceE accE leE putL
theorem tag_round {c : Ctx} {R : List Assn} {l : Nat} {o : Loop} {g : Nat → Value} (yb b7 b8 j r0 r1 : Nat) (tx : List UInt8) (rest : List Value) (h0 : r0 < 1152921504606846976) (h1 : r1 < 1152921504606846976) (hn : tx.length < 4294967296) (hj : 16 * j < tx.length) :
    T Tryd.prog ⟨some l, []⟩ c (pt l (.loop (busy o)) :: row 5 yb (tx.map byteV ++ rest) :: row 54 b8 (numV (accE r0 r1 tx j)) :: row 52 b7 [.int .u64 (r0 : Nat), .int .u64 (r1 : Nat)] :: R) (blkOf Tryd.f13 1) (endQ c l o R (fun L1 => L1 = [row 5 yb (tx.map byteV ++ rest), row 54 b8 (numV (accE r0 r1 tx (j + 1))), row 52 b7 [.int .u64 (r0 : Nat), .int .u64 (r1 : Nat)]])) ⟨68, [(9, .slice (some ⟨yb, 16 * j, none⟩) (min 16 (tx.length - 16 * j)) (min 16 (tx.length - 16 * j))), (8, .pointer (some ⟨b8, 0, none⟩)), (7, .pointer (some ⟨b7, 0, none⟩))], g⟩ := by
  obtain ⟨m, hm⟩ : ∃ m, m = min 16 (tx.length - 16 * j) := ⟨_, rfl⟩
  rw [← hm]
  have hpl : ((tx.drop (16 * j)).take m).length = m := by rw [List.length_take, List.length_drop]; omega
  have hpe := pieceE_lt (p := (tx.drop (16 * j)).take m) (by omega)
  have ha := accE_lt (s := tx) h0 h1 j
  have hz : (putL [UInt8.ofNat 0, UInt8.ofNat 0, UInt8.ofNat 0, UInt8.ofNat 0, UInt8.ofNat 0, UInt8.ofNat 0, UInt8.ofNat 0, UInt8.ofNat 0, UInt8.ofNat 0, UInt8.ofNat 0, UInt8.ofNat 0, UInt8.ofNat 0, UInt8.ofNat 0, UInt8.ofNat 0, UInt8.ofNat 0, UInt8.ofNat 0, UInt8.ofNat 0, UInt8.ofNat 0, UInt8.ofNat 0, UInt8.ofNat 0, UInt8.ofNat 0, UInt8.ofNat 0, UInt8.ofNat 0, UInt8.ofNat 0] 0 ((tx.drop (16 * j)).take m)).length = 24 := by
    have h := piece_len (p := (tx.drop (16 * j)).take m) (by omega)
    rwa [List.length_set] at h
  have hp16 : (tx.drop (16 * j)).take 16 = (tx.drop (16 * j)).take m := by
    by_cases h : 16 ≤ tx.length - 16 * j
    · rw [show m = 16 by omega]
    · rw [List.take_of_length_le (by rw [List.length_drop]; omega), List.take_of_length_le (by rw [List.length_drop]; omega)]
  have hpq := piece_eq (p := (tx.drop (16 * j)).take m) (by omega)
  have hp17 := leE_17 (l := (putL [UInt8.ofNat 0, UInt8.ofNat 0, UInt8.ofNat 0, UInt8.ofNat 0, UInt8.ofNat 0, UInt8.ofNat 0, UInt8.ofNat 0, UInt8.ofNat 0, UInt8.ofNat 0, UInt8.ofNat 0, UInt8.ofNat 0, UInt8.ofNat 0, UInt8.ofNat 0, UInt8.ofNat 0, UInt8.ofNat 0, UInt8.ofNat 0, UInt8.ofNat 0, UInt8.ofNat 0, UInt8.ofNat 0, UInt8.ofNat 0, UInt8.ofNat 0, UInt8.ofNat 0, UInt8.ofNat 0, UInt8.ofNat 0] 0 ((tx.drop (16 * j)).take m)).set ((tx.drop (16 * j)).take m).length 1) (by rw [List.length_set, hz]; decide)
  rw [hpq, hpl] at hp17
  refine T.code ?_
  repeat' (first
    | (refine Vc.mk (by first | (simp only [lt256, true_and, and_true, List.length_cons, List.length_nil, List.length_map, List.length_set, hpl, hz]; done) | (simp only [lt256, true_and, and_true, List.length_cons, List.length_nil, List.length_map, List.length_set, hpl, hz]; omega)) ?_)
    | (refine T.atR 10 ?_; refine T.cutg (fun s : Nat => [(11, .pointer (some ⟨s, 0, none⟩)), (8, .pointer (some ⟨b8, 0, none⟩)), (7, .pointer (some ⟨b7, 0, none⟩))]) (fun s => row 54 s [.int .u64 ((leE (List.take 8 (List.drop 0 ((putL [UInt8.ofNat 0, UInt8.ofNat 0, UInt8.ofNat 0, UInt8.ofNat 0, UInt8.ofNat 0, UInt8.ofNat 0, UInt8.ofNat 0, UInt8.ofNat 0, UInt8.ofNat 0, UInt8.ofNat 0, UInt8.ofNat 0, UInt8.ofNat 0, UInt8.ofNat 0, UInt8.ofNat 0, UInt8.ofNat 0, UInt8.ofNat 0, UInt8.ofNat 0, UInt8.ofNat 0, UInt8.ofNat 0, UInt8.ofNat 0, UInt8.ofNat 0, UInt8.ofNat 0, UInt8.ofNat 0, UInt8.ofNat 0] 0 (List.take m (List.drop (16 * j) tx))).set m 1))) : Nat) : Int), .int .u64 ((leE (List.take 8 (List.drop 8 ((putL [UInt8.ofNat 0, UInt8.ofNat 0, UInt8.ofNat 0, UInt8.ofNat 0, UInt8.ofNat 0, UInt8.ofNat 0, UInt8.ofNat 0, UInt8.ofNat 0, UInt8.ofNat 0, UInt8.ofNat 0, UInt8.ofNat 0, UInt8.ofNat 0, UInt8.ofNat 0, UInt8.ofNat 0, UInt8.ofNat 0, UInt8.ofNat 0, UInt8.ofNat 0, UInt8.ofNat 0, UInt8.ofNat 0, UInt8.ofNat 0, UInt8.ofNat 0, UInt8.ofNat 0, UInt8.ofNat 0, UInt8.ofNat 0] 0 (List.take m (List.drop (16 * j) tx))).set m 1))) : Nat) : Int), .int .u64 (((gt ((putL [UInt8.ofNat 0, UInt8.ofNat 0, UInt8.ofNat 0, UInt8.ofNat 0, UInt8.ofNat 0, UInt8.ofNat 0, UInt8.ofNat 0, UInt8.ofNat 0, UInt8.ofNat 0, UInt8.ofNat 0, UInt8.ofNat 0, UInt8.ofNat 0, UInt8.ofNat 0, UInt8.ofNat 0, UInt8.ofNat 0, UInt8.ofNat 0, UInt8.ofNat 0, UInt8.ofNat 0, UInt8.ofNat 0, UInt8.ofNat 0, UInt8.ofNat 0, UInt8.ofNat 0, UInt8.ofNat 0, UInt8.ofNat 0] 0 (List.take m (List.drop (16 * j) tx))).set m 1) 16).toNat : Nat) : Int)] :: pt l (.loop (busy o)) :: row 5 yb (tx.map byteV ++ rest) :: row 54 b8 (numV (accE r0 r1 tx j)) :: row 52 b7 [.int .u64 (r0 : Nat), .int .u64 (r1 : Nat)] :: R) (fun _ => True) ?_ ?_)
    | (intro s g _; generalize hw0 : leE (List.take 8 (List.drop 0 ((putL [UInt8.ofNat 0, UInt8.ofNat 0, UInt8.ofNat 0, UInt8.ofNat 0, UInt8.ofNat 0, UInt8.ofNat 0, UInt8.ofNat 0, UInt8.ofNat 0, UInt8.ofNat 0, UInt8.ofNat 0, UInt8.ofNat 0, UInt8.ofNat 0, UInt8.ofNat 0, UInt8.ofNat 0, UInt8.ofNat 0, UInt8.ofNat 0, UInt8.ofNat 0, UInt8.ofNat 0, UInt8.ofNat 0, UInt8.ofNat 0, UInt8.ofNat 0, UInt8.ofNat 0, UInt8.ofNat 0, UInt8.ofNat 0] 0 (List.take m (List.drop (16 * j) tx))).set m 1))) = w0; generalize hw1 : leE (List.take 8 (List.drop 8 ((putL [UInt8.ofNat 0, UInt8.ofNat 0, UInt8.ofNat 0, UInt8.ofNat 0, UInt8.ofNat 0, UInt8.ofNat 0, UInt8.ofNat 0, UInt8.ofNat 0, UInt8.ofNat 0, UInt8.ofNat 0, UInt8.ofNat 0, UInt8.ofNat 0, UInt8.ofNat 0, UInt8.ofNat 0, UInt8.ofNat 0, UInt8.ofNat 0, UInt8.ofNat 0, UInt8.ofNat 0, UInt8.ofNat 0, UInt8.ofNat 0, UInt8.ofNat 0, UInt8.ofNat 0, UInt8.ofNat 0, UInt8.ofNat 0] 0 (List.take m (List.drop (16 * j) tx))).set m 1))) = w1; generalize hw2 : (gt ((putL [UInt8.ofNat 0, UInt8.ofNat 0, UInt8.ofNat 0, UInt8.ofNat 0, UInt8.ofNat 0, UInt8.ofNat 0, UInt8.ofNat 0, UInt8.ofNat 0, UInt8.ofNat 0, UInt8.ofNat 0, UInt8.ofNat 0, UInt8.ofNat 0, UInt8.ofNat 0, UInt8.ofNat 0, UInt8.ofNat 0, UInt8.ofNat 0, UInt8.ofNat 0, UInt8.ofNat 0, UInt8.ofNat 0, UInt8.ofNat 0, UInt8.ofNat 0, UInt8.ofNat 0, UInt8.ofNat 0, UInt8.ofNat 0] 0 (List.take m (List.drop (16 * j) tx))).set m 1) 16).toNat = w2; rw [hw0, hw1, hw2] at hp17; have hl0 : w0 < 18446744073709551616 := (by rw [← hw0]; exact leE_lt64 (by rw [List.length_take]; omega)); have hl1 : w1 < 18446744073709551616 := (by rw [← hw1]; exact leE_lt64 (by rw [List.length_take]; omega)); have hl2 : w2 < 18446744073709551616 := (by rw [← hw2]; exact Nat.lt_trans (UInt8.toNat_lt _) (by decide)))
    | (refine TQ.atC ?_; refine TQ.cn _ rfl ⟨rfl, rfl, rfl, trivial⟩ trivial (Ent.imp (by repeat first | exact Imp.refl _ | (apply Imp.pull; focus ((repeat first | exact Del.head _ _ | apply Del.tail); done)) | apply Imp.drop)))
    | (rw [hp17, ← hp16, accE_s]; exact TQ.endR rfl Ent.ic)
    | refine T.pl 10 [1, 3, 8, 9] (.p 0 (.p 2 (.p 4 (.b3 1 (.b3 3 (.b2 5 (.p 6 (.p 7 (.n 8 (.n 9 .fin)))) 8 (.d 5 (.p 6 (.p 7 (.n 9 .fin))))) 5 (.p 6 (.b2 3 (.p 7 (.n 8 (.n 9 .fin))) 8 (.n 3 (.p 7 (.n 9 .fin))))) 8 (.b2 3 (.d 5 (.p 6 (.p 7 (.n 9 .fin)))) 5 (.p 6 (.n 3 (.p 7 (.n 9 .fin)))))) 5 (.p 6 (.b2 1 (.b2 3 (.p 7 (.n 8 (.n 9 .fin))) 8 (.n 3 (.p 7 (.n 9 .fin)))) 8 (.n 1 (.n 3 (.p 7 (.n 9 .fin)))))) 8 (.b2 1 (.b2 3 (.d 5 (.p 6 (.p 7 (.n 9 .fin)))) 5 (.p 6 (.n 3 (.p 7 (.n 9 .fin))))) 5 (.p 6 (.n 1 (.n 3 (.p 7 (.n 9 .fin)))))))))) ?_
    | refine T.pl 11 [2, 4, 5] (.d 0 (.d 1 (.b2 2 (.d 3 (.n 4 (.n 5 .fin))) 3 (.n 2 (.n 4 (.n 5 .fin)))))) ?_
    | refine T.pl 16 [2, 4, 6, 7] (.p 1 (.p 3 (.b2 0 (.n 2 (.n 4 (.p 5 (.n 6 (.n 7 .fin))))) 2 (.b2 0 (.n 4 (.p 5 (.n 6 (.n 7 .fin)))) 4 (.p 5 (.d 0 (.n 6 (.n 7 .fin)))))))) ?_
    | refine T.pl 17 [2, 5] (.p 0 (.p 3 (.d 1 (.b2 2 (.d 4 (.n 5 (.d 6 (.p 7 (.p 8 .fin))))) 4 (.n 2 (.n 5 (.d 6 (.p 7 (.p 8 .fin))))))))) ?_
    | refine And.intro (fun hc => ?_) (fun hc => ?_)
    | refine And.intro ?_ ?_
    | intro b
    | refine stp ?_
    | refine TQ.finC ?_
    | refine ⟨fun hc => ?_, fun hc => ?_⟩
    | refine Ei.f ?_
    | refine ⟨?_, ?_⟩
    | intro b
    | omega
    | (dsimp only; omega)
    | fail)

end Go.Proofs.YtcidilijlgaohaaDoor
