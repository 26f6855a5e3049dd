/- Lemmas for the proofs of this seat: no statement of the seat is claimed here. -/
import Derived.Test.YthbpjjlinebooaaDoorKf
import Derived.Test.YthbpjjlinebooaaDoorKe
import Derived.Test.YthbpjjlinebooaaDoorKc
set_option linter.all false

namespace Go.Proofs.YthbpjjlinebooaaDoor
open Go Pw
set_option maxRecDepth 20000
set_option maxHeartbeats 4000000
set_option maxHeartbeats 400000

instance (priority := 1000) {L : List Assn} {xt e e' : TypeId} {b o m k : Nat} {xs : List UInt8} {rest : List Value} [ht : Und Tryd.prog xt (.slice e)] [hm : RowAt L b e' (xs.map byteV ++ rest)] : SrcA Tryd.prog L 1 xt (.slice (some ⟨b, o, none⟩) m k) m (((xs.drop o).take m).map byteV) (o + m ≤ xs.length) := ⟨fun hs _ _ _ _ _ kk => by
  refine kk (Src.sl ht.h (by rw [List.length_map, List.length_take, List.length_drop]; omega) hm.h (ReadsN.row fun i v hv => ?_))
  have hi := getS_lt hv
  rw [List.length_map, List.length_take, List.length_drop] at hi
  rw [List.map_take, List.map_drop, List.getElem?_take, if_pos (by omega), List.getElem?_drop] at hv
  rw [List.getElem?_append_left (by rw [List.length_map]; omega)]
  exact hv⟩
instance {us : List Value} {l xs : List UInt8} {o : Nat} {C : Prop} [h : BL us l C] : SetA us o (xs.map byteV) ((putL l o xs).map byteV) (C ∧ o + xs.length ≤ l.length) := ⟨fun hc => by
  rw [h.h hc.1]
  exact ⟨by rw [setAll_eq _ _ _ (by simpa using hc.2)]; simp [putL, List.map_take, List.map_drop], fun u hu => (by obtain ⟨x, _, rfl⟩ := List.mem_map.1 hu; rfl), by simpa using hc.2⟩⟩
instance : Inv byteV (.int .u8 1) 1 True := ⟨fun _ => rfl⟩
/-- A piece of a text: a one behind it. -/
def pieceE (p : List UInt8) : Nat := leE (p ++ [1])
theorem leE_zeros : ∀ n, leE (List.replicate n 0) = 0
  | 0 => rfl
  | n + 1 => by rw [List.replicate_succ, leE, leE_zeros n]; rfl
theorem leE_17 {l : List UInt8} (h : 17 ≤ l.length) : leE ((l.drop 0).take 8) + 18446744073709551616 * leE ((l.drop 8).take 8) + 340282366920938463463374607431768211456 * (gt l 16).toNat = leE (l.take 17) := by
  have e1 : l.take 17 = (l.drop 0).take 8 ++ ((l.drop 8).take 8 ++ [gt l 16]) := by
    rw [List.take_add_one, gt_get (by omega), show (16 : Nat) = 8 + 8 from rfl, List.take_add, List.drop_zero]
    simp
  rw [e1, leE_app, leE_app, List.length_take, List.length_drop, List.length_take, List.length_drop]
  rw [show min 8 (l.length - 0) = 8 by omega, show min 8 (l.length - 8) = 8 by omega]
  simp only [leE]
  omega
theorem piece_eq {p : List UInt8} (h : p.length ≤ 16) : leE ((((putL [UInt8.ofNat 0, UInt8.ofNat 0, UInt8.ofNat 0, UInt8.ofNat 0, UInt8.ofNat 0, UInt8.ofNat 0, UInt8.ofNat 0, UInt8.ofNat 0, UInt8.ofNat 0, UInt8.ofNat 0, UInt8.ofNat 0, UInt8.ofNat 0, UInt8.ofNat 0, UInt8.ofNat 0, UInt8.ofNat 0, UInt8.ofNat 0, UInt8.ofNat 0, UInt8.ofNat 0, UInt8.ofNat 0, UInt8.ofNat 0, UInt8.ofNat 0, UInt8.ofNat 0, UInt8.ofNat 0, UInt8.ofNat 0] 0 p).set p.length 1)).take 17) = pieceE p := by
  have e0 : ([UInt8.ofNat 0, UInt8.ofNat 0, UInt8.ofNat 0, UInt8.ofNat 0, UInt8.ofNat 0, UInt8.ofNat 0, UInt8.ofNat 0, UInt8.ofNat 0, UInt8.ofNat 0, UInt8.ofNat 0, UInt8.ofNat 0, UInt8.ofNat 0, UInt8.ofNat 0, UInt8.ofNat 0, UInt8.ofNat 0, UInt8.ofNat 0, UInt8.ofNat 0, UInt8.ofNat 0, UInt8.ofNat 0, UInt8.ofNat 0, UInt8.ofNat 0, UInt8.ofNat 0, UInt8.ofNat 0, UInt8.ofNat 0] : List UInt8) = List.replicate 24 0 := rfl
  rw [e0, putL, List.take_zero, List.nil_append, Nat.zero_add, List.drop_replicate, List.set_append_right _ _ (Nat.le_refl _), Nat.sub_self, show 24 - p.length = (23 - p.length) + 1 by omega, List.replicate_succ, List.set_cons_zero, List.take_append]
  rw [List.take_of_length_le (by omega), show 17 - p.length = (16 - p.length) + 1 by omega, List.take_succ_cons, List.take_replicate, pieceE]
  rw [leE_app, leE_app, leE, leE_zeros]
  rfl
theorem piece_len {p : List UInt8} (h : p.length ≤ 16) : ((putL [UInt8.ofNat 0, UInt8.ofNat 0, UInt8.ofNat 0, UInt8.ofNat 0, UInt8.ofNat 0, UInt8.ofNat 0, UInt8.ofNat 0, UInt8.ofNat 0, UInt8.ofNat 0, UInt8.ofNat 0, UInt8.ofNat 0, UInt8.ofNat 0, UInt8.ofNat 0, UInt8.ofNat 0, UInt8.ofNat 0, UInt8.ofNat 0, UInt8.ofNat 0, UInt8.ofNat 0, UInt8.ofNat 0, UInt8.ofNat 0, UInt8.ofNat 0, UInt8.ofNat 0, UInt8.ofNat 0, UInt8.ofNat 0] 0 p).set p.length 1).length = 24 := by
  rw [List.length_set, putL_len (by rw [Nat.zero_add]; exact Nat.le_trans h (by decide))]; rfl
theorem pieceE_lt {p : List UInt8} (h : p.length ≤ 16) : pieceE p < 680564733841876926926749214863536422912 := by
  have h1 := leE_lt p
  have h2 : 256 ^ p.length ≤ 256 ^ 16 := Nat.pow_le_pow_right (by omega) h
  rw [pieceE, leE_app]
  simp only [leE]
  have e : (256 : Nat) ^ 16 = 340282366920938463463374607431768211456 := by decide
  have e1 : (1 : UInt8).toNat = 1 := rfl
  rw [e1]
  omega
theorem foldE_lt {x : Nat} (h : x < 2722258935367507707706996859454145691648) : foldE x < 1361129467683753853853498429727072845829 := by
  unfold foldE; omega
theorem timesE_lt {x r0 r1 : Nat} (hx : x < 10889035741470030830827987437816582766592) (h0 : r0 < 1152921504606846976) (h1 : r1 < 1152921504606846976) : timesE x r0 r1 < 1361129467683753853853498429727072845829 := by
  unfold timesE
  have h2 : r0 + 18446744073709551616 * r1 < 21267647932558653966460912964485513216 := by omega
  have h3 : x * (r0 + 18446744073709551616 * r1) ≤ 10889035741470030830827987437816582766592 * 21267647932558653966460912964485513216 := Nat.mul_le_mul (by omega) (by omega)
  apply foldE_lt
  generalize x * (r0 + 18446744073709551616 * r1) = z at *
  omega
/-- What is gathered of a text's first pieces. -/
def accE (r0 r1 : Nat) (s : List UInt8) : Nat → Nat
  | 0 => 0
  | j + 1 => timesE (accE r0 r1 s j + pieceE ((s.drop (16 * j)).take 16)) r0 r1
theorem accE_lt {r0 r1 : Nat} {s : List UInt8} (h0 : r0 < 1152921504606846976) (h1 : r1 < 1152921504606846976) : ∀ j, accE r0 r1 s j < 1361129467683753853853498429727072845829
  | 0 => by rw [accE]; omega
  | j + 1 => by
    have h2 := accE_lt (s := s) h0 h1 j
    have h3 := pieceE_lt (p := (s.drop (16 * j)).take 16) (by rw [List.length_take]; omega)
    exact timesE_lt (by omega) h0 h1
instance {L : List Assn} {cs : List Value} {x r0 r1 : Nat} {u v : Int} {C : Prop} [h1 : NumL cs x C] [hu : Nn u r0] [hv : Nn v r1] : FnR Tryd.prog 95 [.agg cs.toArray, .agg [.int .u64 u, .int .u64 v].toArray] L (fun kk => Vc (C ∧ x < 10889035741470030830827987437816582766592 ∧ r0 < 1152921504606846976 ∧ r1 < 1152921504606846976) (kk (.agg (numV (timesE x r0 r1)).toArray) L)) :=
  ⟨fun kk h => ⟨[], L, _, by rw [h1.h h.l.1, hu.h, hv.h]; exact times_spec x r0 r1 h.l.2.1 h.l.2.2.1 h.l.2.2.2, .nil _, fun v L' hq => by rw [hq.1, hq.2]; exact h.r⟩⟩

end Go.Proofs.YthbpjjlinebooaaDoor


namespace Go.Proofs.YthbpjjlinebooaaDoor
open Go Pw
set_option maxRecDepth 20000
set_option maxHeartbeats 4000000
set_option maxHeartbeats 4000000

theorem lt256 : ((0 : Nat) < 256) = True := by simp
theorem accE_s {r0 r1 j : Nat} {s : List UInt8} : timesE (accE r0 r1 s j + pieceE ((s.drop (16 * j)).take 16)) r0 r1 = accE r0 r1 s (j + 1) := rfl
attribute [local irreducible] timesE foldE pieceE accE leE putL
theorem tag_round {c : Ctx} {R : List Assn} {l : Nat} {o : Loop} {g : Nat → Value} (yb b7 b8 j r0 r1 : Nat) (tx : List UInt8) (rest : List Value) (h0 : r0 < 1152921504606846976) (h1 : r1 < 1152921504606846976) (hn : tx.length < 4294967296) (hj : 16 * j < tx.length) :
    T Tryd.prog ⟨some l, []⟩ c (pt l (.loop (busy o)) :: row 5 yb (tx.map byteV ++ rest) :: row 159 b8 (numV (accE r0 r1 tx j)) :: row 157 b7 [.int .u64 (r0 : Nat), .int .u64 (r1 : Nat)] :: R) (blkOf Tryd.f75 1) (endQ c l o R (fun L1 => L1 = [row 5 yb (tx.map byteV ++ rest), row 159 b8 (numV (accE r0 r1 tx (j + 1))), row 157 b7 [.int .u64 (r0 : Nat), .int .u64 (r1 : Nat)]])) ⟨68, [(9, .slice (some ⟨yb, 16 * j, none⟩) (min 16 (tx.length - 16 * j)) (min 16 (tx.length - 16 * j))), (8, .pointer (some ⟨b8, 0, none⟩)), (7, .pointer (some ⟨b7, 0, none⟩))], g⟩ := by
  obtain ⟨m, hm⟩ : ∃ m, m = min 16 (tx.length - 16 * j) := ⟨_, rfl⟩
  rw [← hm]
  have hpl : ((tx.drop (16 * j)).take m).length = m := by rw [List.length_take, List.length_drop]; omega
  have hpe := pieceE_lt (p := (tx.drop (16 * j)).take m) (by omega)
  have ha := accE_lt (s := tx) h0 h1 j
  have hz : (putL [UInt8.ofNat 0, UInt8.ofNat 0, UInt8.ofNat 0, UInt8.ofNat 0, UInt8.ofNat 0, UInt8.ofNat 0, UInt8.ofNat 0, UInt8.ofNat 0, UInt8.ofNat 0, UInt8.ofNat 0, UInt8.ofNat 0, UInt8.ofNat 0, UInt8.ofNat 0, UInt8.ofNat 0, UInt8.ofNat 0, UInt8.ofNat 0, UInt8.ofNat 0, UInt8.ofNat 0, UInt8.ofNat 0, UInt8.ofNat 0, UInt8.ofNat 0, UInt8.ofNat 0, UInt8.ofNat 0, UInt8.ofNat 0] 0 ((tx.drop (16 * j)).take m)).length = 24 := by
    have h := piece_len (p := (tx.drop (16 * j)).take m) (by omega)
    rwa [List.length_set] at h
  have hp16 : (tx.drop (16 * j)).take 16 = (tx.drop (16 * j)).take m := by
    by_cases h : 16 ≤ tx.length - 16 * j
    · rw [show m = 16 by omega]
    · rw [List.take_of_length_le (by rw [List.length_drop]; omega), List.take_of_length_le (by rw [List.length_drop]; omega)]
  have hpq := piece_eq (p := (tx.drop (16 * j)).take m) (by omega)
  have hp17 := leE_17 (l := (putL [UInt8.ofNat 0, UInt8.ofNat 0, UInt8.ofNat 0, UInt8.ofNat 0, UInt8.ofNat 0, UInt8.ofNat 0, UInt8.ofNat 0, UInt8.ofNat 0, UInt8.ofNat 0, UInt8.ofNat 0, UInt8.ofNat 0, UInt8.ofNat 0, UInt8.ofNat 0, UInt8.ofNat 0, UInt8.ofNat 0, UInt8.ofNat 0, UInt8.ofNat 0, UInt8.ofNat 0, UInt8.ofNat 0, UInt8.ofNat 0, UInt8.ofNat 0, UInt8.ofNat 0, UInt8.ofNat 0, UInt8.ofNat 0] 0 ((tx.drop (16 * j)).take m)).set ((tx.drop (16 * j)).take m).length 1) (by rw [List.length_set, hz]; decide)
  rw [hpq, hpl] at hp17
  refine T.code ?_
  repeat' (first
    | (refine Vc.mk (by first | (simp only [lt256, true_and, and_true, List.length_cons, List.length_nil, List.length_map, List.length_set, hpl, hz]; done) | (simp only [lt256, true_and, and_true, List.length_cons, List.length_nil, List.length_map, List.length_set, hpl, hz]; omega)) ?_)
    | (refine T.atR 10 ?_; refine T.cutg (fun s : Nat => [(11, .pointer (some ⟨s, 0, none⟩)), (8, .pointer (some ⟨b8, 0, none⟩)), (7, .pointer (some ⟨b7, 0, none⟩))]) (fun s => row 159 s [.int .u64 ((leE (List.take 8 (List.drop 0 ((putL [UInt8.ofNat 0, UInt8.ofNat 0, UInt8.ofNat 0, UInt8.ofNat 0, UInt8.ofNat 0, UInt8.ofNat 0, UInt8.ofNat 0, UInt8.ofNat 0, UInt8.ofNat 0, UInt8.ofNat 0, UInt8.ofNat 0, UInt8.ofNat 0, UInt8.ofNat 0, UInt8.ofNat 0, UInt8.ofNat 0, UInt8.ofNat 0, UInt8.ofNat 0, UInt8.ofNat 0, UInt8.ofNat 0, UInt8.ofNat 0, UInt8.ofNat 0, UInt8.ofNat 0, UInt8.ofNat 0, UInt8.ofNat 0] 0 (List.take m (List.drop (16 * j) tx))).set m 1))) : Nat) : Int), .int .u64 ((leE (List.take 8 (List.drop 8 ((putL [UInt8.ofNat 0, UInt8.ofNat 0, UInt8.ofNat 0, UInt8.ofNat 0, UInt8.ofNat 0, UInt8.ofNat 0, UInt8.ofNat 0, UInt8.ofNat 0, UInt8.ofNat 0, UInt8.ofNat 0, UInt8.ofNat 0, UInt8.ofNat 0, UInt8.ofNat 0, UInt8.ofNat 0, UInt8.ofNat 0, UInt8.ofNat 0, UInt8.ofNat 0, UInt8.ofNat 0, UInt8.ofNat 0, UInt8.ofNat 0, UInt8.ofNat 0, UInt8.ofNat 0, UInt8.ofNat 0, UInt8.ofNat 0] 0 (List.take m (List.drop (16 * j) tx))).set m 1))) : Nat) : Int), .int .u64 (((gt ((putL [UInt8.ofNat 0, UInt8.ofNat 0, UInt8.ofNat 0, UInt8.ofNat 0, UInt8.ofNat 0, UInt8.ofNat 0, UInt8.ofNat 0, UInt8.ofNat 0, UInt8.ofNat 0, UInt8.ofNat 0, UInt8.ofNat 0, UInt8.ofNat 0, UInt8.ofNat 0, UInt8.ofNat 0, UInt8.ofNat 0, UInt8.ofNat 0, UInt8.ofNat 0, UInt8.ofNat 0, UInt8.ofNat 0, UInt8.ofNat 0, UInt8.ofNat 0, UInt8.ofNat 0, UInt8.ofNat 0, UInt8.ofNat 0] 0 (List.take m (List.drop (16 * j) tx))).set m 1) 16).toNat : Nat) : Int)] :: pt l (.loop (busy o)) :: row 5 yb (tx.map byteV ++ rest) :: row 159 b8 (numV (accE r0 r1 tx j)) :: row 157 b7 [.int .u64 (r0 : Nat), .int .u64 (r1 : Nat)] :: R) (fun _ => True) ?_ ?_)
    | (intro s g _; generalize hw0 : leE (List.take 8 (List.drop 0 ((putL [UInt8.ofNat 0, UInt8.ofNat 0, UInt8.ofNat 0, UInt8.ofNat 0, UInt8.ofNat 0, UInt8.ofNat 0, UInt8.ofNat 0, UInt8.ofNat 0, UInt8.ofNat 0, UInt8.ofNat 0, UInt8.ofNat 0, UInt8.ofNat 0, UInt8.ofNat 0, UInt8.ofNat 0, UInt8.ofNat 0, UInt8.ofNat 0, UInt8.ofNat 0, UInt8.ofNat 0, UInt8.ofNat 0, UInt8.ofNat 0, UInt8.ofNat 0, UInt8.ofNat 0, UInt8.ofNat 0, UInt8.ofNat 0] 0 (List.take m (List.drop (16 * j) tx))).set m 1))) = w0; generalize hw1 : leE (List.take 8 (List.drop 8 ((putL [UInt8.ofNat 0, UInt8.ofNat 0, UInt8.ofNat 0, UInt8.ofNat 0, UInt8.ofNat 0, UInt8.ofNat 0, UInt8.ofNat 0, UInt8.ofNat 0, UInt8.ofNat 0, UInt8.ofNat 0, UInt8.ofNat 0, UInt8.ofNat 0, UInt8.ofNat 0, UInt8.ofNat 0, UInt8.ofNat 0, UInt8.ofNat 0, UInt8.ofNat 0, UInt8.ofNat 0, UInt8.ofNat 0, UInt8.ofNat 0, UInt8.ofNat 0, UInt8.ofNat 0, UInt8.ofNat 0, UInt8.ofNat 0] 0 (List.take m (List.drop (16 * j) tx))).set m 1))) = w1; generalize hw2 : (gt ((putL [UInt8.ofNat 0, UInt8.ofNat 0, UInt8.ofNat 0, UInt8.ofNat 0, UInt8.ofNat 0, UInt8.ofNat 0, UInt8.ofNat 0, UInt8.ofNat 0, UInt8.ofNat 0, UInt8.ofNat 0, UInt8.ofNat 0, UInt8.ofNat 0, UInt8.ofNat 0, UInt8.ofNat 0, UInt8.ofNat 0, UInt8.ofNat 0, UInt8.ofNat 0, UInt8.ofNat 0, UInt8.ofNat 0, UInt8.ofNat 0, UInt8.ofNat 0, UInt8.ofNat 0, UInt8.ofNat 0, UInt8.ofNat 0] 0 (List.take m (List.drop (16 * j) tx))).set m 1) 16).toNat = w2; rw [hw0, hw1, hw2] at hp17; have hl0 : w0 < 18446744073709551616 := (by rw [← hw0]; exact leE_lt64 (by rw [List.length_take]; omega)); have hl1 : w1 < 18446744073709551616 := (by rw [← hw1]; exact leE_lt64 (by rw [List.length_take]; omega)); have hl2 : w2 < 18446744073709551616 := (by rw [← hw2]; exact Nat.lt_trans (UInt8.toNat_lt _) (by decide)))
    | (refine TQ.atC ?_; refine TQ.cn _ rfl ⟨rfl, rfl, rfl, trivial⟩ trivial (Ent.imp (by repeat first | exact Imp.refl _ | (apply Imp.pull; focus ((repeat first | exact Del.head _ _ | apply Del.tail); done)) | apply Imp.drop)))
    | (rw [hp17, ← hp16, accE_s]; exact TQ.endR rfl Ent.ic)
    | refine T.pl 10 [1, 3, 8, 9] (.p 0 (.p 2 (.p 4 (.b3 1 (.b3 3 (.b2 5 (.p 6 (.p 7 (.n 8 (.n 9 .fin)))) 8 (.d 5 (.p 6 (.p 7 (.n 9 .fin))))) 5 (.p 6 (.b2 3 (.p 7 (.n 8 (.n 9 .fin))) 8 (.n 3 (.p 7 (.n 9 .fin))))) 8 (.b2 3 (.d 5 (.p 6 (.p 7 (.n 9 .fin)))) 5 (.p 6 (.n 3 (.p 7 (.n 9 .fin)))))) 5 (.p 6 (.b2 1 (.b2 3 (.p 7 (.n 8 (.n 9 .fin))) 8 (.n 3 (.p 7 (.n 9 .fin)))) 8 (.n 1 (.n 3 (.p 7 (.n 9 .fin)))))) 8 (.b2 1 (.b2 3 (.d 5 (.p 6 (.p 7 (.n 9 .fin)))) 5 (.p 6 (.n 3 (.p 7 (.n 9 .fin))))) 5 (.p 6 (.n 1 (.n 3 (.p 7 (.n 9 .fin)))))))))) ?_
    | refine T.pl 11 [2, 4, 5] (.d 0 (.d 1 (.b2 2 (.d 3 (.n 4 (.n 5 .fin))) 3 (.n 2 (.n 4 (.n 5 .fin)))))) ?_
    | refine T.pl 16 [2, 4, 6, 7] (.p 1 (.p 3 (.b2 0 (.n 2 (.n 4 (.p 5 (.n 6 (.n 7 .fin))))) 2 (.b2 0 (.n 4 (.p 5 (.n 6 (.n 7 .fin)))) 4 (.p 5 (.d 0 (.n 6 (.n 7 .fin)))))))) ?_
    | refine T.pl 17 [2, 5] (.p 0 (.p 3 (.d 1 (.b2 2 (.d 4 (.n 5 (.d 6 (.p 7 (.p 8 .fin))))) 4 (.n 2 (.n 5 (.d 6 (.p 7 (.p 8 .fin))))))))) ?_
    | refine And.intro (fun hc => ?_) (fun hc => ?_)
    | refine And.intro ?_ ?_
    | intro b
    | refine stp ?_
    | refine TQ.finC ?_
    | refine TQ.finC2 ?_
    | refine TQ.finC3 ?_
    | refine ⟨fun hc => ?_, fun hc => ?_⟩
    | refine Ei.f ?_
    | refine ⟨?_, ?_⟩
    | intro b
    | omega
    | (dsimp only; omega)
    | fail)

end Go.Proofs.YthbpjjlinebooaaDoor


namespace Go.Proofs.YthbpjjlinebooaaDoor
open Go Pw
set_option maxRecDepth 20000
set_option maxHeartbeats 4000000
set_option maxHeartbeats 1000000

def wordK (key : List UInt8) (i : Nat) : Nat := leE ((key.drop (8 * i)).take 8)
theorem wordK_lt (key : List UInt8) (i : Nat) : wordK key i < 18446744073709551616 := leE_lt64 (by rw [List.length_take]; omega)
instance {L R : List Assn} {p i : Nat} {z : Int} {key : List UInt8} [hz : Nn z i] [hd : RowDel L p 9 [str key] R] : FnR Tryd.prog 92 [.int .i64 z, .pointer (some ⟨p, 0, none⟩)] L (fun q => Vc (key.length = 32 ∧ i < 4) (q (.int .u64 (wordK key i : Nat)) (row 9 p [str key] :: R))) :=
  ⟨fun q h => ⟨_, R, _, by rw [hz.h]; exact word_spec p i key h.l.1 h.l.2, Pick.of1 hd.h, fun v L' hq => by rw [hq.1, hq.2]; exact h.r⟩⟩
def rE0 (key : List UInt8) : Nat := wordK key 0 &&& 1152921487695413247
def rE1 (key : List UInt8) : Nat := wordK key 1 &&& 1152921487695413244
theorem rE0_lt (key : List UInt8) : rE0 key < 1152921504606846976 := Nat.lt_of_le_of_lt Nat.and_le_right (by decide)
theorem rE1_lt (key : List UInt8) : rE1 key < 1152921504606846976 := Nat.lt_of_le_of_lt Nat.and_le_right (by decide)
/-- What stands at the end. -/
def endE (a w2 w3 : Nat) : Nat := (if 3 < (foldE a + 5) / 340282366920938463463374607431768211456 % 18446744073709551616 then foldE a + 5 else foldE a) + (w2 + 18446744073709551616 * w3)
def sixE (z : Nat) : List UInt8 := leB (z % 18446744073709551616) 8 ++ leB (z / 18446744073709551616 % 18446744073709551616) 8
def tagE (key s : List UInt8) : List UInt8 := sixE (endE (accE (rE0 key) (rE1 key) s ((s.length + 15) / 16)) (wordK key 2) (wordK key 3))
def TagE (key s : List UInt8) : List UInt8 × Nat := if key.length = 32 then (tagE key s, 0) else ([], 2)
theorem tag_t {a w2 w3 : Nat} (h : 3 < (foldE a + 5) / 340282366920938463463374607431768211456 % 18446744073709551616) : foldE a + 5 + (w2 + 18446744073709551616 * w3) = endE a w2 w3 := by rw [endE, if_pos h]
theorem tag_f {a w2 w3 : Nat} (h : ¬ 3 < (foldE a + 5) / 340282366920938463463374607431768211456 % 18446744073709551616) : foldE a + (w2 + 18446744073709551616 * w3) = endE a w2 w3 := by rw [endE, if_neg h]
theorem acc0 {r0 r1 : Nat} {s : List UInt8} : numV (accE r0 r1 s 0) = [.int .u64 0, .int .u64 0, .int .u64 0] := by simp [numV, accE]
theorem tag_fin_t {key tx : List UInt8} {a : Nat} (hk : ¬ key.length ≠ 32) (hacc : accE (rE0 key) (rE1 key) tx ((tx.length + 15) / 16) = a) (h : 3 < (foldE a + (5 + 18446744073709551616 * 0 + 340282366920938463463374607431768211456 * 0)) / 340282366920938463463374607431768211456 % 18446744073709551616) : asResult [str (leB ((foldE a + (5 + 18446744073709551616 * 0 + 340282366920938463463374607431768211456 * 0) + (wordK key 2 + 18446744073709551616 * wordK key 3 + 340282366920938463463374607431768211456 * 0)) % 18446744073709551616) 8 ++ leB ((foldE a + (5 + 18446744073709551616 * 0 + 340282366920938463463374607431768211456 * 0) + (wordK key 2 + 18446744073709551616 * wordK key 3 + 340282366920938463463374607431768211456 * 0)) / 18446744073709551616 % 18446744073709551616) 8), .int .i64 0] = asResult [str (TagE key tx).1, .int .i64 ((TagE key tx).2 : Nat)] := by
  rw [TagE, if_pos (Decidable.not_not.1 hk)]
  dsimp only [tagE, sixE]
  rw [hacc, ← tag_t h]
  rfl
theorem tag_fin_f {key tx : List UInt8} {a : Nat} (hk : ¬ key.length ≠ 32) (hacc : accE (rE0 key) (rE1 key) tx ((tx.length + 15) / 16) = a) (h : ¬ 3 < (foldE a + (5 + 18446744073709551616 * 0 + 340282366920938463463374607431768211456 * 0)) / 340282366920938463463374607431768211456 % 18446744073709551616) : asResult [str (leB ((foldE a + (wordK key 2 + 18446744073709551616 * wordK key 3 + 340282366920938463463374607431768211456 * 0)) % 18446744073709551616) 8 ++ leB ((foldE a + (wordK key 2 + 18446744073709551616 * wordK key 3 + 340282366920938463463374607431768211456 * 0)) / 18446744073709551616 % 18446744073709551616) 8), .int .i64 0] = asResult [str (TagE key tx).1, .int .i64 ((TagE key tx).2 : Nat)] := by
  rw [TagE, if_pos (Decidable.not_not.1 hk)]
  dsimp only [tagE, sixE]
  rw [hacc, ← tag_f h]
  rfl
attribute [local irreducible] wordK rE0 rE1 foldE accE endE leB
theorem Tag_spec (key tx : List UInt8) (hn : tx.length < 4294967296) :
    Sat Tryd.prog 75 [str key, str tx] [] (fun u L' => u = asResult [str (TagE key tx).1, .int .i64 (TagE key tx).2] ∧ L' = []) := by
  have hr0 : wordK key 0 &&& 1152921487695413247 = rE0 key := by unfold rE0; rfl
  have hr1 : wordK key 1 &&& 1152921487695413244 = rE1 key := by unfold rE1; rfl
  all_goals
    refine Sat.enter Tryd.func75 rfl Tryd.ntmps75 rfl (fun c R => ?_)
    try simp only [List.cons_append, List.nil_append]
    repeat' (first
      | (refine T.atG ?_; rename_i b2 b7 b8 yb k0 bs; obtain ⟨bn, hbn⟩ : ∃ bn, bn = b := ⟨_, rfl⟩; subst hbn; rw [hr0, hr1]; refine T.open_sl (e := 5) (by repeat (first | exact Del.head _ _ | apply Del.tail)) (fun h _ _ => by cases h) (fun y9 k9 rest e1 e2 e3 => ?_); cases e1; refine T.rng (A := row 42 bs [.slice (some ⟨yb, 0, none⟩) tx.length (tx.length + k9)] :: row 3 bn [.int .i64 ((16 : Nat) : Int)] :: [row 5 yb (tx.map byteV ++ rest), row 159 b8 [.int .u64 0, .int .u64 0, .int .u64 0], row 157 b7 [.int .u64 (rE0 key : Nat), .int .u64 (rE1 key : Nat)]]) (first := []) (cap := [.pointer (some ⟨bs, 0, none⟩), .pointer (some ⟨bn, 0, none⟩)]) rfl Tryd.call67 (PickC.h) (fun L1 => L1 = row 42 bs [.slice (some ⟨yb, 0, none⟩) tx.length (tx.length + k9)] :: row 3 bn [.int .i64 ((16 : Nat) : Int)] :: (fun j => [row 5 yb (tx.map byteV ++ rest), row 159 b8 (numV (accE (rE0 key) (rE1 key) tx j)), row 157 b7 [.int .u64 (rE0 key : Nat), .int .u64 (rE1 key : Nat)]]) ((tx.length + 15) / 16)) ?_ ?_)
      | (intro l m fn; have hH : [row 5 yb (tx.map byteV ++ rest), row 159 b8 [.int .u64 0, .int .u64 0, .int .u64 0], row 157 b7 [.int .u64 (rE0 key : Nat), .int .u64 (rE1 key : Nat)]] = (fun j => [row 5 yb (tx.map byteV ++ rest), row 159 b8 (numV (accE (rE0 key) (rE1 key) tx j)), row 157 b7 [.int .u64 (rE0 key : Nat), .int .u64 (rE1 key : Nat)]]) 0 := (by dsimp only; rw [acc0]); rw [hH]; refine SatC.post (chunk16_spec yb tx.length (tx.length + k9) bs bn (fun j => [row 5 yb (tx.map byteV ++ rest), row 159 b8 (numV (accE (rE0 key) (rE1 key) tx j)), row 157 b7 [.int .u64 (rE0 key : Nat), .int .u64 (rE1 key : Nat)]]) hn (by omega) rfl rfl rfl (fun j hj => Yl.of1 (fun R => ?_))) (fun v L' h => ⟨_, rfl, h⟩); simp only [List.cons_append, List.nil_append])
      | (refine TQ.thenR ?_)
      | (refine T.atB 1 ?_; refine T.useE (fun g => tag_round yb b7 b8 j (rE0 key) (rE1 key) tx rest (rE0_lt key) (rE1_lt key) hn hj))
      | (intro m L1 hL1; subst hL1; have ha := accE_lt (s := tx) (rE0_lt key) (rE1_lt key) ((tx.length + 15) / 16); simp only [List.cons_append, List.nil_append]; generalize hacc : accE (rE0 key) (rE1 key) tx ((tx.length + 15) / 16) = a at *; refine Hold.h ?_)
      | exact wordK_lt key _
      | exact Fini.mk ⟨by rw [TagE, if_neg hc]; rfl, rfl⟩
      | refine T.pl 10 [1, 3, 8, 9] (.p 0 (.p 2 (.p 4 (.b3 1 (.b3 3 (.b2 5 (.p 6 (.p 7 (.n 8 (.n 9 .fin)))) 8 (.d 5 (.p 6 (.p 7 (.n 9 .fin))))) 5 (.p 6 (.b2 3 (.p 7 (.n 8 (.n 9 .fin))) 8 (.n 3 (.p 7 (.n 9 .fin))))) 8 (.b2 3 (.d 5 (.p 6 (.p 7 (.n 9 .fin)))) 5 (.p 6 (.n 3 (.p 7 (.n 9 .fin)))))) 5 (.p 6 (.b2 1 (.b2 3 (.p 7 (.n 8 (.n 9 .fin))) 8 (.n 3 (.p 7 (.n 9 .fin)))) 8 (.n 1 (.n 3 (.p 7 (.n 9 .fin)))))) 8 (.b2 1 (.b2 3 (.d 5 (.p 6 (.p 7 (.n 9 .fin)))) 5 (.p 6 (.n 3 (.p 7 (.n 9 .fin))))) 5 (.p 6 (.n 1 (.n 3 (.p 7 (.n 9 .fin)))))))))) ?_
      | refine T.pl 11 [2, 4, 5] (.d 0 (.d 1 (.b2 2 (.d 3 (.n 4 (.n 5 .fin))) 3 (.n 2 (.n 4 (.n 5 .fin)))))) ?_
      | refine T.pl 16 [2, 4, 6, 7] (.p 1 (.p 3 (.b2 0 (.n 2 (.n 4 (.p 5 (.n 6 (.n 7 .fin))))) 2 (.b2 0 (.n 4 (.p 5 (.n 6 (.n 7 .fin)))) 4 (.p 5 (.d 0 (.n 6 (.n 7 .fin)))))))) ?_
      | refine T.pl 17 [2, 5] (.p 0 (.p 3 (.d 1 (.b2 2 (.d 4 (.n 5 (.d 6 (.p 7 (.p 8 .fin))))) 4 (.n 2 (.n 5 (.d 6 (.p 7 (.p 8 .fin))))))))) ?_
      | refine And.intro (fun hc => ?_) (fun hc => ?_)
      | refine And.intro ?_ ?_
      | intro b
      | refine stp ?_
      | refine TQ.finC ?_
      | refine TQ.finC2 ?_
      | refine TQ.finC3 ?_
      | refine ⟨fun hc => ?_, fun hc => ?_⟩
      | refine Ei.f ?_
      | refine ⟨?_, ?_⟩
      | intro b
      | omega
      | (dsimp only; omega)
      | fail)
  all_goals try refine Hold.mk ?_
  repeat' (first
    | exact wordK_lt key _
    | (refine Vc.mk ⟨by omega, by decide⟩ ?_)
    | exact trivial
    | exact (leB_len _ _).symm
    | (refine TQ.atRet ?_; first | exact TQ.finM (Fini.mk ⟨tag_fin_t ‹_› hacc hc, rfl⟩) | exact TQ.finM (Fini.mk ⟨tag_fin_f ‹_› hacc hc, rfl⟩))
    | refine T.pl 10 [1, 3, 8, 9] (.p 0 (.p 2 (.p 4 (.b3 1 (.b3 3 (.b2 5 (.p 6 (.p 7 (.n 8 (.n 9 .fin)))) 8 (.d 5 (.p 6 (.p 7 (.n 9 .fin))))) 5 (.p 6 (.b2 3 (.p 7 (.n 8 (.n 9 .fin))) 8 (.n 3 (.p 7 (.n 9 .fin))))) 8 (.b2 3 (.d 5 (.p 6 (.p 7 (.n 9 .fin)))) 5 (.p 6 (.n 3 (.p 7 (.n 9 .fin)))))) 5 (.p 6 (.b2 1 (.b2 3 (.p 7 (.n 8 (.n 9 .fin))) 8 (.n 3 (.p 7 (.n 9 .fin)))) 8 (.n 1 (.n 3 (.p 7 (.n 9 .fin)))))) 8 (.b2 1 (.b2 3 (.d 5 (.p 6 (.p 7 (.n 9 .fin)))) 5 (.p 6 (.n 3 (.p 7 (.n 9 .fin))))) 5 (.p 6 (.n 1 (.n 3 (.p 7 (.n 9 .fin)))))))))) ?_
    | refine T.pl 11 [2, 4, 5] (.d 0 (.d 1 (.b2 2 (.d 3 (.n 4 (.n 5 .fin))) 3 (.n 2 (.n 4 (.n 5 .fin)))))) ?_
    | refine T.pl 16 [2, 4, 6, 7] (.p 1 (.p 3 (.b2 0 (.n 2 (.n 4 (.p 5 (.n 6 (.n 7 .fin))))) 2 (.b2 0 (.n 4 (.p 5 (.n 6 (.n 7 .fin)))) 4 (.p 5 (.d 0 (.n 6 (.n 7 .fin)))))))) ?_
    | refine T.pl 17 [2, 5] (.p 0 (.p 3 (.d 1 (.b2 2 (.d 4 (.n 5 (.d 6 (.p 7 (.p 8 .fin))))) 4 (.n 2 (.n 5 (.d 6 (.p 7 (.p 8 .fin))))))))) ?_
    | refine And.intro (fun hc => ?_) (fun hc => ?_)
    | refine And.intro ?_ ?_
    | intro b
    | refine stp ?_
    | refine TQ.finC ?_
    | refine TQ.finC2 ?_
    | refine TQ.finC3 ?_
    | refine ⟨fun hc => ?_, fun hc => ?_⟩
    | refine Ei.f ?_
    | refine ⟨?_, ?_⟩
    | intro b
    | omega
    | (dsimp only; omega)
    | fail)

end Go.Proofs.YthbpjjlinebooaaDoor

