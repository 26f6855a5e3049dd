/- Lemmas for the proofs of this seat: no statement of the seat is claimed here. -/
import Derived.Test.YtcidilijlgaohaaDoorA4
import Derived.Test.YtcidilijlgaohaaDoorPxF
set_option linter.all false
namespace Go.Proofs.YtcidilijlgaohaaDoor
open Go Pw
set_option maxRecDepth 20000
set_option maxHeartbeats 4000000

def qh (a b c d r1 r2 : Nat) (ys : List Nat) : List Nat :=
  let y1 := ys.set a ((gt ys a + gt ys b) % 4294967296)
  let y2 := y1.set d (rotE (gt y1 d ^^^ gt y1 a) r1)
  let y3 := y2.set c ((gt y2 c + gt y2 d) % 4294967296)
  y3.set b (rotE (gt y3 b ^^^ gt y3 c) r2)
instance {x k : Nat} [h : Lt32 x] : Lt32 (rotE x k) := ⟨rotE_lt h.h⟩
instance {a b c d r1 r2 : Nat} {ys : List Nat} [h : B32 ys] : B32 (qh a b c d r1 r2 ys) := by unfold qh; infer_instance
instance {a b c d r1 r2 n : Nat} {ys : List Nat} [h : Ln ys n] : Ln (qh a b c d r1 r2 ys) n := by unfold qh; infer_instance
/-- Which words are mixed. -/
def qsE : List (Nat × Nat × Nat × Nat) := [(0, 4, 8, 12), (1, 5, 9, 13), (2, 6, 10, 14), (3, 7, 11, 15), (0, 5, 10, 15), (1, 6, 11, 12), (2, 7, 8, 13), (3, 4, 9, 14)]
abbrev qf (q : Nat × Nat × Nat × Nat) : List Value := [vU8 q.1, vU8 q.2.1, vU8 q.2.2.1, vU8 q.2.2.2]
instance : FLen qf (no_index 4) := ⟨fun _ => rfl⟩
theorem qs_lt (i : Nat) : (gt qsE i).1 < 16 ∧ (gt qsE i).2.1 < 16 ∧ (gt qsE i).2.2.1 < 16 ∧ (gt qsE i).2.2.2 < 16 := by
  rcases Nat.lt_or_ge i 8 with h | h
  · rcases (by omega : i = 0 ∨ i = 1 ∨ i = 2 ∨ i = 3 ∨ i = 4 ∨ i = 5 ∨ i = 6 ∨ i = 7) with rfl | rfl | rfl | rfl | rfl | rfl | rfl | rfl <;> decide
  · have : gt qsE i = default := by unfold gt; rw [List.getD_eq_getElem?_getD, List.getElem?_eq_none h]; rfl
    rw [this]; decide
/-- A quarter round. -/
def quart (q : Nat × Nat × Nat × Nat) (ys : List Nat) : List Nat := qh q.1 q.2.1 q.2.2.1 q.2.2.2 8 7 (qh q.1 q.2.1 q.2.2.1 q.2.2.2 16 12 ys)
def qrs (ys : List Nat) : Nat → List Nat
  | 0 => ys
  | i + 1 => quart (gt qsE i) (qrs ys i)
def rnds (ys : List Nat) : Nat → List Nat
  | 0 => ys
  | i + 1 => qrs (rnds ys i) 8
instance instLnQrs {n i : Nat} {ys : List Nat} [h : Ln ys n] : Ln (qrs ys i) n := by
  induction i with
  | zero => exact h
  | succ i ih => rw [qrs, quart]; infer_instance
instance instB32Qrs {i : Nat} {ys : List Nat} [h : B32 ys] : B32 (qrs ys i) := by
  induction i with
  | zero => exact h
  | succ i ih => rw [qrs, quart]; infer_instance
instance {n i : Nat} {ys : List Nat} [h : Ln ys n] : Ln (rnds ys i) n := by
  induction i with
  | zero => exact h
  | succ i ih => rw [rnds]; infer_instance
instance {i : Nat} {ys : List Nat} [h : B32 ys] : B32 (rnds ys i) := by
  induction i with
  | zero => exact h
  | succ i ih => rw [rnds]; infer_instance
/-- The words of a text. -/
def wordE (l : List UInt8) (i : Nat) : Nat := leE ((l.drop (4 * i)).take 4) % 4294967296
def wordsE (l : List UInt8) (n i : Nat) : List Nat := (List.range i).map (wordE l) ++ List.replicate (n - i) 0
theorem wordsE_len {l : List UInt8} {n i : Nat} (h : i ≤ n) : (wordsE l n i).length = n := by simp [wordsE]; omega
theorem wordsE_set {l : List UInt8} {n i : Nat} (h : i < n) : (wordsE l n i).set i (wordE l i) = wordsE l n (i + 1) := by
  rw [wordsE, wordsE, List.range_succ, List.map_append, List.append_assoc, show n - i = (n - (i + 1)) + 1 by omega, List.replicate_succ, List.set_append_right _ _ (by simp)]
  simp
theorem wordsE_B32 {l : List UInt8} {n i : Nat} : B32 (wordsE l n i) := ⟨fun j => by
  unfold gt wordsE
  rw [List.getD_eq_getElem?_getD, List.getElem?_append]
  split
  · next hj =>
    rw [List.getElem?_map]
    simp at hj
    rw [List.getElem?_range hj]; exact Nat.mod_lt _ (by decide)
  · rw [List.getElem?_replicate]
    split <;> decide⟩
theorem littleQ_spec (e : TypeId) (b o n k : Nat) (l : List UInt8) (rest : List Value) (hn : n ≤ 8) (hl : o + n ≤ l.length) :
    Sat Tryd.prog 27 [.slice (some ⟨b, o, none⟩) n k] [row e b (l.map byteV ++ rest)] (fun u L' => u = .int .u64 (leE ((l.drop o).take n) : Nat) ∧ L' = [row e b (l.map byteV ++ rest)]) := by
  all_goals
    refine Sat.enter Tryd.func27 rfl Tryd.ntmps27 rfl (fun c R => ?_)
    try simp only [List.cons_append, List.nil_append]
    repeat' (first
      | (refine T.lpa 0 [(0, _), (5, _)] (0 : Nat) (fun i => [(2, .int .u64 (leE (((l.drop o).take n).take i) : Nat)), (6, .int .i64 (i : Nat))]) (fun _ => []) (fun i => i ≤ n) (fun i => n - i) (Nat.zero_le _) ?_; intro i g hI; have h64 := leE_lt64 (l := ((l.drop o).take n).take i) (by simp only [List.length_take, List.length_drop]; omega))
      | refine Vc.mk ⟨by omega, by rw [List.length_map]; omega⟩ ?_
      | refine TQ.rda (i + 1) ?_ ?_ rfl ⟨(by have h5 := leE_step (l := (l.drop o).take n) (i := i) (by simp only [List.length_take, List.length_drop]; omega) (by simp only [List.length_take, List.length_drop]; omega); rw [gt_part hc hl] at h5; exact congrArg vU64 h5), rfl, rfl, rfl, trivial⟩
      | exact Fini.mk ⟨by (obtain rfl : i = n := by omega); rw [List.take_of_length_le (by simp only [List.length_take]; omega)]; rfl, rfl⟩
      | refine stp ?_
      | refine TQ.finC ?_
      | refine ⟨fun hc => ?_, fun hc => ?_⟩
      | refine Ei.f ?_
      | refine ⟨?_, ?_⟩
      | intro b
      | omega
      | (dsimp only; omega)
      | fail)

instance {L R : List Assn} {e : TypeId} {b o n k : Nat} {l : List UInt8} {rest : List Value} [hd : RowDel L b e (l.map byteV ++ rest) R] : FnR Tryd.prog 27 [.slice (some ⟨b, o, none⟩) n k] L (fun q => Vc (n ≤ 8 ∧ o + n ≤ l.length) (q (.int .u64 (leE ((l.drop o).take n) : Nat)) (row e b (l.map byteV ++ rest) :: R))) :=
  ⟨fun q h => ⟨_, R, _, littleQ_spec e b o n k l rest h.l.1 h.l.2, Pick.of1 hd.h, fun v L' hq => by rw [hq.1, hq.2]; exact h.r⟩⟩
instance {L R : List Assn} {e : TypeId} {b o n k : Nat} {l : List UInt8} [hd : RowDel L b e (l.map byteV) R] : FnR Tryd.prog 27 [.slice (some ⟨b, o, none⟩) n k] L (fun q => Vc (n ≤ 8 ∧ o + n ≤ l.length) (q (.int .u64 (leE ((l.drop o).take n) : Nat)) (row e b (l.map byteV) :: R))) :=
  ⟨fun q h => ⟨_, R, _, littleR_spec e b o n k l h.l.1 h.l.2, Pick.of1 hd.h, fun v L' hq => by rw [hq.1, hq.2]; exact h.r⟩⟩

end Go.Proofs.YtcidilijlgaohaaDoor
