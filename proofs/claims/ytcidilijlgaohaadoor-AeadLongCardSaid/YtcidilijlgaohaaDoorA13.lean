/- Lemmas for the proofs of this seat: no statement of the seat is claimed here. -/
import Derived.Test.YtcidilijlgaohaaDoorA12
import Derived.Test.YtcidilijlgaohaaDoorA5
set_option linter.all false
namespace Go.Proofs.YtcidilijlgaohaaDoor
open Go Pw
set_option maxRecDepth 20000
set_option maxHeartbeats 4000000
set_option maxHeartbeats 400000

instance (priority := 1000) {L : List Assn} {xt e e' : TypeId} {b o m k : Nat} {xs : List UInt8} {rest : List Value} [ht : Und Tryd.prog xt (.slice e)] [hm : RowAt L b e' (xs.map byteV ++ rest)] : SrcA Tryd.prog L 1 xt (.slice (some ⟨b, o, none⟩) m k) m (((xs.drop o).take m).map byteV) (o + m ≤ xs.length) := ⟨fun hs _ _ _ _ _ kk => by
  refine kk (Src.sl ht.h (by rw [List.length_map, List.length_take, List.length_drop]; omega) hm.h (ReadsN.row fun i v hv => ?_))
  have hi := getS_lt hv
  rw [List.length_map, List.length_take, List.length_drop] at hi
  rw [List.map_take, List.map_drop, List.getElem?_take, if_pos (by omega), List.getElem?_drop] at hv
  rw [List.getElem?_append_left (by rw [List.length_map]; omega)]
  exact hv⟩
instance {us : List Value} {l xs : List UInt8} {o : Nat} {C : Prop} [h : BL us l C] : SetA us o (xs.map byteV) ((putL l o xs).map byteV) (C ∧ o + xs.length ≤ l.length) := ⟨fun hc => by
  rw [h.h hc.1]
  exact ⟨by rw [setAll_eq _ _ _ (by simpa using hc.2)]; simp [putL, List.map_take, List.map_drop], fun u hu => (by obtain ⟨x, _, rfl⟩ := List.mem_map.1 hu; rfl), by simpa using hc.2⟩⟩
instance : Inv byteV (.int .u8 1) 1 True := ⟨fun _ => rfl⟩
/-- A piece of a text: a one behind it. -/
def pieceE (p : List UInt8) : Nat := leE (p ++ [1])
theorem leE_zeros : ∀ n, leE (List.replicate n 0) = 0
  | 0 => rfl
  | n + 1 => by rw [List.replicate_succ, leE, leE_zeros n]; rfl
theorem leE_17 {l : List UInt8} (h : 17 ≤ l.length) : leE ((l.drop 0).take 8) + 18446744073709551616 * leE ((l.drop 8).take 8) + 340282366920938463463374607431768211456 * (gt l 16).toNat = leE (l.take 17) := by
  have e1 : l.take 17 = (l.drop 0).take 8 ++ ((l.drop 8).take 8 ++ [gt l 16]) := by
    rw [List.take_add_one, gt_get (by omega), show (16 : Nat) = 8 + 8 from rfl, List.take_add, List.drop_zero]
    simp
  rw [e1, leE_app, leE_app, List.length_take, List.length_drop, List.length_take, List.length_drop]
  rw [show min 8 (l.length - 0) = 8 by omega, show min 8 (l.length - 8) = 8 by omega]
  simp only [leE]
  omega
theorem piece_eq {p : List UInt8} (h : p.length ≤ 16) : leE ((((putL [UInt8.ofNat 0, UInt8.ofNat 0, UInt8.ofNat 0, UInt8.ofNat 0, UInt8.ofNat 0, UInt8.ofNat 0, UInt8.ofNat 0, UInt8.ofNat 0, UInt8.ofNat 0, UInt8.ofNat 0, UInt8.ofNat 0, UInt8.ofNat 0, UInt8.ofNat 0, UInt8.ofNat 0, UInt8.ofNat 0, UInt8.ofNat 0, UInt8.ofNat 0, UInt8.ofNat 0, UInt8.ofNat 0, UInt8.ofNat 0, UInt8.ofNat 0, UInt8.ofNat 0, UInt8.ofNat 0, UInt8.ofNat 0] 0 p).set p.length 1)).take 17) = pieceE p := by
  have e0 : ([UInt8.ofNat 0, UInt8.ofNat 0, UInt8.ofNat 0, UInt8.ofNat 0, UInt8.ofNat 0, UInt8.ofNat 0, UInt8.ofNat 0, UInt8.ofNat 0, UInt8.ofNat 0, UInt8.ofNat 0, UInt8.ofNat 0, UInt8.ofNat 0, UInt8.ofNat 0, UInt8.ofNat 0, UInt8.ofNat 0, UInt8.ofNat 0, UInt8.ofNat 0, UInt8.ofNat 0, UInt8.ofNat 0, UInt8.ofNat 0, UInt8.ofNat 0, UInt8.ofNat 0, UInt8.ofNat 0, UInt8.ofNat 0] : List UInt8) = List.replicate 24 0 := rfl
  rw [e0, putL, List.take_zero, List.nil_append, Nat.zero_add, List.drop_replicate, List.set_append_right _ _ (Nat.le_refl _), Nat.sub_self, show 24 - p.length = (23 - p.length) + 1 by omega, List.replicate_succ, List.set_cons_zero, List.take_append]
  rw [List.take_of_length_le (by omega), show 17 - p.length = (16 - p.length) + 1 by omega, List.take_succ_cons, List.take_replicate, pieceE]
  rw [leE_app, leE_app, leE, leE_zeros]
  rfl
theorem piece_len {p : List UInt8} (h : p.length ≤ 16) : ((putL [UInt8.ofNat 0, UInt8.ofNat 0, UInt8.ofNat 0, UInt8.ofNat 0, UInt8.ofNat 0, UInt8.ofNat 0, UInt8.ofNat 0, UInt8.ofNat 0, UInt8.ofNat 0, UInt8.ofNat 0, UInt8.ofNat 0, UInt8.ofNat 0, UInt8.ofNat 0, UInt8.ofNat 0, UInt8.ofNat 0, UInt8.ofNat 0, UInt8.ofNat 0, UInt8.ofNat 0, UInt8.ofNat 0, UInt8.ofNat 0, UInt8.ofNat 0, UInt8.ofNat 0, UInt8.ofNat 0, UInt8.ofNat 0] 0 p).set p.length 1).length = 24 := by
  rw [List.length_set, putL_len (by rw [Nat.zero_add]; exact Nat.le_trans h (by decide))]; rfl
theorem pieceE_lt {p : List UInt8} (h : p.length ≤ 16) : pieceE p < 680564733841876926926749214863536422912 := by
  have h1 := leE_lt p
  have h2 : 256 ^ p.length ≤ 256 ^ 16 := Nat.pow_le_pow_right (by omega) h
  rw [pieceE, leE_app]
  simp only [leE]
  have e : (256 : Nat) ^ 16 = 340282366920938463463374607431768211456 := by decide
  have e1 : (1 : UInt8).toNat = 1 := rfl
  rw [e1]
  omega
theorem foldE_lt {x : Nat} (h : x < 2722258935367507707706996859454145691648) : foldE x < 1361129467683753853853498429727072845829 := by
  unfold foldE; omega
theorem timesE_lt {x r0 r1 : Nat} (hx : x < 10889035741470030830827987437816582766592) (h0 : r0 < 1152921504606846976) (h1 : r1 < 1152921504606846976) : timesE x r0 r1 < 1361129467683753853853498429727072845829 := by
  unfold timesE
  have h2 : r0 + 18446744073709551616 * r1 < 21267647932558653966460912964485513216 := by omega
  have h3 : x * (r0 + 18446744073709551616 * r1) ≤ 10889035741470030830827987437816582766592 * 21267647932558653966460912964485513216 := Nat.mul_le_mul (by omega) (by omega)
  apply foldE_lt
  generalize x * (r0 + 18446744073709551616 * r1) = z at *
  omega
/-- What is gathered of a text's first pieces. -/
def accE (r0 r1 : Nat) (s : List UInt8) : Nat → Nat
  | 0 => 0
  | j + 1 => timesE (accE r0 r1 s j + pieceE ((s.drop (16 * j)).take 16)) r0 r1
theorem accE_lt {r0 r1 : Nat} {s : List UInt8} (h0 : r0 < 1152921504606846976) (h1 : r1 < 1152921504606846976) : ∀ j, accE r0 r1 s j < 1361129467683753853853498429727072845829
  | 0 => by rw [accE]; omega
  | j + 1 => by
    have h2 := accE_lt (s := s) h0 h1 j
    have h3 := pieceE_lt (p := (s.drop (16 * j)).take 16) (by rw [List.length_take]; omega)
    exact timesE_lt (by omega) h0 h1
instance {L : List Assn} {cs : List Value} {x r0 r1 : Nat} {u v : Int} {C : Prop} [h1 : NumL cs x C] [hu : Nn u r0] [hv : Nn v r1] : FnR Tryd.prog 29 [.agg cs.toArray, .agg [.int .u64 u, .int .u64 v].toArray] L (fun kk => Vc (C ∧ x < 10889035741470030830827987437816582766592 ∧ r0 < 1152921504606846976 ∧ r1 < 1152921504606846976) (kk (.agg (numV (timesE x r0 r1)).toArray) L)) :=
  ⟨fun kk h => ⟨[], L, _, by rw [h1.h h.l.1, hu.h, hv.h]; exact times_spec x r0 r1 h.l.2.1 h.l.2.2.1 h.l.2.2.2, .nil _, fun v L' hq => by rw [hq.1, hq.2]; exact h.r⟩⟩

end Go.Proofs.YtcidilijlgaohaaDoor
