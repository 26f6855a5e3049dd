/- Lemmas for the proofs of this seat: no statement of the seat is claimed here. -/
import Derived.Test.YtcidilijlgaohaaDoorA10
set_option linter.all false
namespace Go.Proofs.YtcidilijlgaohaaDoor
open Go Pw
set_option maxRecDepth 20000
set_option maxHeartbeats 4000000
set_option maxHeartbeats 400000
theorem ksE_at {key nonce : List UInt8} {j i : Nat} (h : i < 64) : ksE key nonce (64 * j + i) = gt (blockE key nonce (j + 1)) i := by
  unfold ksE
  rw [show 1 + (64 * j + i) / 64 = j + 1 by omega, show (64 * j + i) % 64 = i by omega]
theorem turnP_end {key nonce tx : List UInt8} {j m : Nat} (hm : m = min 64 (tx.length - 64 * j)) (hj : 64 * j < tx.length) : turnP key nonce tx (64 * j + m) = turnP key nonce tx (64 * (j + 1)) := by
  by_cases h : 64 ≤ tx.length - 64 * j
  · rw [show 64 * j + m = 64 * (j + 1) by omega]
  · rw [turnP_ge (by omega), turnP_ge (by omega)]

theorem turned_round {c : Ctx} {R : List Assn} {l : Nat} {o : Loop} {g : Nat → Value} (yb b8 b3 b4 j : Nat) (key nonce tx : List UInt8) (rest : List Value) (h1 : key.length = 32) (h2 : nonce.length = 12) (hn : tx.length < 4294967296) (hj : 64 * j < tx.length) :
    T Tryd.prog ⟨some l, []⟩ c (pt l (.loop (busy o)) :: row 5 yb ((turnP key nonce tx (64 * j)).map byteV ++ rest) :: row 22 b8 [.int .u32 ((j : Nat) : Int)] :: row 9 b3 [str key] :: row 9 b4 [str nonce] :: quA :: R) (blkOf Tryd.f37 1) (endQ c l o R (fun L1 => L1 = [row 5 yb ((turnP key nonce tx (64 * (j + 1))).map byteV ++ rest), row 22 b8 [.int .u32 (((j + 1) : Nat) : Int)], row 9 b3 [str key], row 9 b4 [str nonce], quA])) ⟨40, [(9, .slice (some ⟨yb, 64 * j, none⟩) (min 64 (tx.length - 64 * j)) (min 64 (tx.length - 64 * j))), (8, .pointer (some ⟨b8, 0, none⟩)), (3, .pointer (some ⟨b3, 0, none⟩)), (4, .pointer (some ⟨b4, 0, none⟩))], g⟩ := by
  have hl : (turnP key nonce tx (64 * j)).length = tx.length := turnP_len _ _ _ _
  refine T.code ?_
  repeat' (first
    | (refine T.atB 2 ?_; obtain ⟨m, hm⟩ : ∃ m, m = min 64 (tx.length - 64 * j) := ⟨_, rfl⟩; rw [← hm]; refine T.lpa 2 [(9, _), (10, _), (24, _)] ((0, turnP key nonce tx (64 * j)) : Nat × List UInt8) (fun s => [(25, .int .i64 (s.1 : Nat))]) (fun s => [row 5 yb (s.2.map byteV ++ rest)]) (fun s => s.1 ≤ m ∧ s.2 = turnP key nonce tx (64 * j + s.1)) (fun s => m - s.1) ⟨Nat.zero_le _, rfl⟩ ?_; rintro ⟨i, ys⟩ g ⟨hI, hy⟩; dsimp only at hI hy ⊢; have hly : ys.length = tx.length := (by rw [hy]; exact turnP_len _ _ _ _); simp only [List.cons_append, List.nil_append, appR])
    | (refine Vc.mk ⟨h1, h2, by omega⟩ ?_)
    | (refine Vc.mk (by first | (simp only [true_and, and_true, List.length_append, List.length_map, blockE_len, List.length_replicate, turnP_len]; done) | (simp only [true_and, and_true, List.length_append, List.length_map, blockE_len, List.length_replicate, turnP_len]; omega)) ?_)
    | (first | (simp only [List.length_map, blockE_len, List.length_replicate]; done) | (simp only [List.length_map, blockE_len, List.length_replicate]; omega))
    | (refine TQ.rd (i + 1, _) rfl ⟨rfl, rfl, rfl, rfl, trivial⟩ ⟨by omega, ?_⟩ (by dsimp only; omega) (Ent.imp (by repeat first | exact Imp.refl _ | (apply Imp.pull; focus ((repeat first | exact Del.head _ _ | apply Del.tail); done)) | apply Imp.drop)))
    | (show ys.set _ _ = _; rw [hy, turnP_get (by omega), if_neg (by omega), ← ksE_at (by omega)]; exact turnP_set (by omega))
    | (have e9 : ys = turnP key nonce tx (64 * (j + 1)) := (by rw [hy, ← turnP_end hm hj]; congr; omega); rw [e9]; exact TQ.endR rfl Ent.ic)
    | refine T.pl 10 [9] (.p 0 (.p 1 (.p 4 (.p 5 (.d 2 (.d 3 (.d 6 (.p 7 (.d 8 (.n 9 .fin)))))))))) ?_
    | refine And.intro (fun hc => ?_) (fun hc => ?_)
    | refine And.intro ?_ ?_
    | intro b
    | refine stp ?_
    | refine TQ.finC ?_
    | refine ⟨fun hc => ?_, fun hc => ?_⟩
    | refine Ei.f ?_
    | refine ⟨?_, ?_⟩
    | intro b
    | omega
    | (dsimp only; omega)
    | fail)

end Go.Proofs.YtcidilijlgaohaaDoor
