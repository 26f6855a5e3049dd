/- Lemmas for the proofs of this seat: no statement of the seat is claimed here. -/
import Derived.Test.YtcidilijlgaohaaDoorA16
set_option linter.all false
namespace Go.Proofs.YtcidilijlgaohaaDoor
open Go Pw
set_option maxRecDepth 20000
set_option maxHeartbeats 4000000
set_option maxHeartbeats 1000000
instance {L : List Assn} {R : List Assn} {key nonce ad cc : List UInt8} [hd : DelC quA L R] : FnR Tryd.prog 38 [str key, str nonce, str ad, str cc] L (fun q => Vc (key.length = 32 ∧ nonce.length = 12 ∧ ad.length < 262144 ∧ cc.length < 262144) (q (str (sealE key nonce ad cc)) (quA :: R))) := ⟨fun q h => ⟨_, R, _, tag_spec key nonce ad cc h.l.1 h.l.2.1 h.l.2.2.1 h.l.2.2.2, Pick.of1 hd.h, fun v L' hq => by rw [hq.1, hq.2]; exact h.r⟩⟩

theorem sealE_len (key nonce ad c : List UInt8) : (sealE key nonce ad c).length = 16 := by
  rw [sealE, TagE, if_pos (by rw [List.length_take, blockE_len]; rfl)]
  simp only [tagE, sixE, List.length_append, leB_len]
def SealE (key nonce ad s : List UInt8) : List UInt8 × Nat :=
  if key.length = 32 ∧ nonce.length = 12 then
    if 65536 < max ad.length s.length then ([], 4) else (turnedE key nonce s ++ sealE key nonce ad (turnedE key nonce s), 0)
  else ([], 2)
attribute [local irreducible] turnedE sealE
theorem Seal_spec (key nonce ad s : List UInt8) (ha : ad.length < 4294967296) (hs : s.length < 4294967296) :
    Sat Tryd.prog 16 [str key, str nonce, str ad, str s] [quA] (fun u L' => u = asResult [str (SealE key nonce ad s).1, .int .i64 (SealE key nonce ad s).2] ∧ L' = [quA]) := by
  all_goals
    refine Sat.enter Tryd.func16 rfl Tryd.ntmps16 rfl (fun c R => ?_)
    try simp only [List.cons_append, List.nil_append]
    repeat' (first
      | (first | refine Vc.mk ⟨(Decidable.not_not.1 ‹¬¬(key.length = 32 ∧ nonce.length = 12)›).1, (Decidable.not_not.1 ‹¬¬(key.length = 32 ∧ nonce.length = 12)›).2, by omega⟩ ?_ | refine Vc.mk ⟨(Decidable.not_not.1 ‹¬¬(key.length = 32 ∧ nonce.length = 12)›).1, (Decidable.not_not.1 ‹¬¬(key.length = 32 ∧ nonce.length = 12)›).2, by omega, by rw [turnedE_len]; omega⟩ ?_)
      | exact Fini.mk ⟨by rw [SealE, if_neg ‹_›]; rfl, rfl⟩
      | exact Fini.mk ⟨by rw [SealE, if_pos (Decidable.not_not.1 ‹¬¬(key.length = 32 ∧ nonce.length = 12)›), if_pos ‹_›]; rfl, rfl⟩
      | exact Fini.mk ⟨by rw [SealE, if_pos (Decidable.not_not.1 ‹¬¬(key.length = 32 ∧ nonce.length = 12)›), if_neg ‹_›]; rfl, rfl⟩
      | (rw [turnedE_len, sealE_len]; omega)
      | refine And.intro (fun hc => ?_) (fun hc => ?_)
      | refine And.intro ?_ ?_
      | intro b
      | refine stp ?_
      | refine TQ.finC ?_
      | refine ⟨fun hc => ?_, fun hc => ?_⟩
      | refine Ei.f ?_
      | refine ⟨?_, ?_⟩
      | intro b
      | omega
      | (dsimp only; omega)
      | fail)

instance {n : Nat} {a b : Value} : Pu Tryd.prog (.pick (.bool (decide (n < 0))) a b) (fun k => k b) := inferInstanceAs (Pu Tryd.prog (.pick (.bool false) a b) (fun k => k b))
def OpenE (key nonce ad s : List UInt8) : List UInt8 × Nat :=
  if key.length = 32 ∧ nonce.length = 12 then
    if 65536 < max ad.length (s.length - 16) then ([], 4)
    else if s.length < 16 ∨ ¬ sealE key nonce ad (s.take (s.length - 16)) = s.drop (s.length - 16) then ([], 130)
    else (turnedE key nonce (s.take (s.length - 16)), 0)
  else ([], 2)
theorem Open_long (key nonce ad s : List UInt8) (ha : ad.length < 4294967296) (hs : s.length < 4294967296) (h16 : 16 ≤ s.length) :
    Sat Tryd.prog 18 [str key, str nonce, str ad, str s] [quA] (fun u L' => u = asResult [str (OpenE key nonce ad s).1, .int .i64 (OpenE key nonce ad s).2] ∧ L' = [quA]) := by
  all_goals
    refine Sat.enter Tryd.func18 rfl Tryd.ntmps18 rfl (fun c R => ?_)
    try simp only [List.cons_append, List.nil_append]
    repeat' (first
      | (first | refine Vc.mk ⟨(Decidable.not_not.1 ‹¬¬(key.length = 32 ∧ nonce.length = 12)›).1, (Decidable.not_not.1 ‹¬¬(key.length = 32 ∧ nonce.length = 12)›).2, by omega, by rw [List.length_take]; omega⟩ ?_ | refine Vc.mk ⟨(Decidable.not_not.1 ‹¬¬(key.length = 32 ∧ nonce.length = 12)›).1, (Decidable.not_not.1 ‹¬¬(key.length = 32 ∧ nonce.length = 12)›).2, by rw [List.length_take]; omega⟩ ?_ | refine Vc.mk (by rw [sealE_len]; omega) ?_)
      | exact Fini.mk ⟨by rw [OpenE, if_neg ‹_›]; rfl, rfl⟩
      | exact Fini.mk ⟨by rw [OpenE, if_pos (Decidable.not_not.1 ‹¬¬(key.length = 32 ∧ nonce.length = 12)›), if_pos ‹_›]; rfl, rfl⟩
      | exact Fini.mk ⟨by rw [OpenE, if_pos (Decidable.not_not.1 ‹¬¬(key.length = 32 ∧ nonce.length = 12)›), if_neg ‹¬ 65536 < _›, if_pos (.inr (by rw [Nat.max_zero] at hc; exact hc))]; rfl, rfl⟩
      | exact Fini.mk ⟨by rw [Nat.max_zero] at hc; rw [OpenE, if_pos (Decidable.not_not.1 ‹¬¬(key.length = 32 ∧ nonce.length = 12)›), if_neg ‹¬ 65536 < _›, if_neg (fun h => h.elim (fun h => by omega) (fun h => hc h))]; rfl, rfl⟩
      | rw [List.length_take]; omega
      | refine T.pl 6 [10, 15] (.p 0 (.p 1 (.p 2 (.p 3 (.p 4 (.p 5 (.p 6 (.p 7 (.p 8 (.p 9 (.p 11 (.p 12 (.p 13 (.p 14 (.n 10 (.n 15 (.p 16 (.p 17 (.p 18 .fin))))))))))))))))))) ?_
      | refine And.intro (fun hc => ?_) (fun hc => ?_)
      | refine And.intro ?_ ?_
      | intro b
      | refine stp ?_
      | refine TQ.finC ?_
      | refine ⟨fun hc => ?_, fun hc => ?_⟩
      | refine Ei.f ?_
      | refine ⟨?_, ?_⟩
      | intro b
      | omega
      | (dsimp only; omega)
      | fail)
theorem Open_short (key nonce ad s : List UInt8) (ha : ad.length < 4294967296) (hs : s.length < 4294967296) (h16 : s.length < 16) :
    Sat Tryd.prog 18 [str key, str nonce, str ad, str s] [quA] (fun u L' => u = asResult [str (OpenE key nonce ad s).1, .int .i64 (OpenE key nonce ad s).2] ∧ L' = [quA]) := by
  all_goals
    refine Sat.enter Tryd.func18 rfl Tryd.ntmps18 rfl (fun c R => ?_)
    try simp only [List.cons_append, List.nil_append]
    repeat' (first
      | (first | refine Vc.mk ⟨(Decidable.not_not.1 ‹¬¬(key.length = 32 ∧ nonce.length = 12)›).1, (Decidable.not_not.1 ‹¬¬(key.length = 32 ∧ nonce.length = 12)›).2, by omega, by rw [List.length_take]; omega⟩ ?_ | refine Vc.mk ⟨(Decidable.not_not.1 ‹¬¬(key.length = 32 ∧ nonce.length = 12)›).1, (Decidable.not_not.1 ‹¬¬(key.length = 32 ∧ nonce.length = 12)›).2, by rw [List.length_take]; omega⟩ ?_ | refine Vc.mk (by rw [sealE_len]; omega) ?_)
      | exact Fini.mk ⟨by rw [OpenE, if_neg ‹_›]; rfl, rfl⟩
      | exact Fini.mk ⟨by rw [OpenE, if_pos (Decidable.not_not.1 ‹¬¬(key.length = 32 ∧ nonce.length = 12)›), if_pos ‹_›]; rfl, rfl⟩
      | (have hlim : (IntKind.i64.lim : Int) = 9223372036854775808 := rfl; omega)
      | exact Fini.mk ⟨by rw [OpenE, if_pos (Decidable.not_not.1 ‹¬¬(key.length = 32 ∧ nonce.length = 12)›), if_pos (by omega)]; rfl, rfl⟩
      | exact Fini.mk ⟨by rw [OpenE, if_pos (Decidable.not_not.1 ‹¬¬(key.length = 32 ∧ nonce.length = 12)›), if_neg (by omega), if_pos (.inl h16)]; rfl, rfl⟩
      | refine T.pl 6 [10, 15] (.p 0 (.p 1 (.p 2 (.p 3 (.p 4 (.p 5 (.p 6 (.p 7 (.p 8 (.p 9 (.p 11 (.p 12 (.p 13 (.p 14 (.n 10 (.n 15 (.p 16 (.p 17 (.p 18 .fin))))))))))))))))))) ?_
      | refine And.intro (fun hc => ?_) (fun hc => ?_)
      | refine And.intro ?_ ?_
      | intro b
      | refine stp ?_
      | refine TQ.finC ?_
      | refine ⟨fun hc => ?_, fun hc => ?_⟩
      | refine Ei.f ?_
      | refine ⟨?_, ?_⟩
      | intro b
      | omega
      | (dsimp only; omega)
      | fail)

end Go.Proofs.YtcidilijlgaohaaDoor
