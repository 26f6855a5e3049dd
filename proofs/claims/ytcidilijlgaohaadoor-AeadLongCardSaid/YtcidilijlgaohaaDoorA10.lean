/- Lemmas for the proofs of this seat: no statement of the seat is claimed here. -/
import Derived.Test.YtcidilijlgaohaaDoorA9
set_option linter.all false
namespace Go.Proofs.YtcidilijlgaohaaDoor
open Go Pw
set_option maxRecDepth 20000
set_option maxHeartbeats 4000000
set_option maxHeartbeats 400000

/-- The byte that a byte is turned by. -/
def ksE (key nonce : List UInt8) (p : Nat) : UInt8 := gt (blockE key nonce (1 + p / 64)) (p % 64)
/-- A text whose first bytes are turned. -/
def turnP (key nonce s : List UInt8) (i : Nat) : List UInt8 := (List.range s.length).map fun p => if p < i then gt s p ^^^ ksE key nonce p else gt s p
def turnedE (key nonce s : List UInt8) : List UInt8 := turnP key nonce s s.length
theorem turnP_len (key nonce s : List UInt8) (i : Nat) : (turnP key nonce s i).length = s.length := by simp [turnP]
theorem turnedE_len (key nonce s : List UInt8) : (turnedE key nonce s).length = s.length := turnP_len _ _ _ _
theorem turnP_get {key nonce s : List UInt8} {i p : Nat} (h : p < s.length) : gt (turnP key nonce s i) p = if p < i then gt s p ^^^ ksE key nonce p else gt s p := by
  unfold turnP
  rw [gt, List.getD_eq_getElem?_getD, List.getElem?_map, List.getElem?_range h]; rfl
theorem turnP_0 {key nonce s : List UInt8} : turnP key nonce s 0 = s := (gt_ext (turnP_len _ _ _ _)).1 fun j hj => by
  rw [turnP_len] at hj
  rw [turnP_get hj, if_neg (by omega)]
theorem gt_set' {l : List UInt8} {i j : Nat} {x : UInt8} (hi : i < l.length) : gt (l.set i x) j = if i = j then x else gt l j := by
  unfold gt
  rw [List.getD_eq_getElem?_getD, List.getElem?_set, List.getD_eq_getElem?_getD]
  by_cases h : i = j
  · subst h; simp [hi]
  · simp [h]
theorem turnP_set {key nonce s : List UInt8} {i : Nat} (h : i < s.length) : (turnP key nonce s i).set i (gt s i ^^^ ksE key nonce i) = turnP key nonce s (i + 1) :=
  (gt_ext (by rw [List.length_set, turnP_len, turnP_len])).1 fun j hj => by
    rw [List.length_set, turnP_len] at hj
    rw [gt_set' (by rw [turnP_len]; exact h), turnP_get hj, turnP_get hj]
    by_cases e : i = j
    · subst e; rw [if_pos rfl, if_pos (by omega)]
    · rw [if_neg e]
      by_cases e2 : j < i
      · rw [if_pos e2, if_pos (by omega)]
      · rw [if_neg e2, if_neg (by omega)]
theorem turnP_ge {key nonce s : List UInt8} {i : Nat} (h : s.length ≤ i) : turnP key nonce s i = turnedE key nonce s :=
  (gt_ext (by rw [turnP_len, turnedE_len])).1 fun j hj => by
    rw [turnP_len] at hj
    rw [turnedE, turnP_get hj, turnP_get hj, if_pos (by omega), if_pos hj]
theorem Chunk_spec (b n cap k : Nat) (hk : 0 < k) (hk2 : k < 4294967296) :
    Sat Tryd.prog 26 [.slice (some ⟨b, 0, none⟩) n cap, .int .i64 k] [] (fun u L' => ∃ bs bn, u = .func (.func 42) #[] #[.pointer (some ⟨bs, 0, none⟩), .pointer (some ⟨bn, 0, none⟩)] ∧ L' = [row 35 bs [.slice (some ⟨b, 0, none⟩) n cap], row 3 bn [.int .i64 k]]) := by
  all_goals
    refine Sat.enter Tryd.func26 rfl Tryd.ntmps26 rfl (fun c R => ?_)
    try simp only [List.cons_append, List.nil_append]
    repeat' (first
      | exact Fini.mk ⟨_, _, rfl, rfl⟩
      | refine And.intro (fun hc => ?_) (fun hc => ?_)
      | refine And.intro ?_ ?_
      | intro b
      | refine stp ?_
      | refine TQ.finC ?_
      | refine ⟨fun hc => ?_, fun hc => ?_⟩
      | refine Ei.f ?_
      | refine ⟨?_, ?_⟩
      | intro b
      | omega
      | (dsimp only; omega)
      | fail)
instance {L : List Assn} {b n cap k : Nat} {z : Int} [hz : Nn z k] : FnR Tryd.prog 26 [.slice (some ⟨b, 0, none⟩) n cap, .int .i64 z] L (fun q => Vc (0 < k ∧ k < 4294967296) (∀ bs bn, q (.func (.func 42) #[] #[.pointer (some ⟨bs, 0, none⟩), .pointer (some ⟨bn, 0, none⟩)]) (row 35 bs [.slice (some ⟨b, 0, none⟩) n cap] :: row 3 bn [.int .i64 (k : Nat)] :: L))) :=
  ⟨fun q h => ⟨[], L, _, by rw [hz.h]; exact Chunk_spec b n cap k h.l.1 h.l.2, .nil _, fun v L' hq => by obtain ⟨bs, bn, e1, e2⟩ := hq; rw [e1, e2]; exact h.r bs bn⟩⟩

end Go.Proofs.YtcidilijlgaohaaDoor
