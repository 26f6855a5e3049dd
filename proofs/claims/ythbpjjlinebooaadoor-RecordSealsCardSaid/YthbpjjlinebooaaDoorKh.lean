/- Lemmas for the proofs of this seat: no statement of the seat is claimed here. -/
import Derived.Test.YthbpjjlinebooaaDoorKg
import Derived.Test.YthbpjjlinebooaaDoorKc
set_option linter.all false

namespace Go.Proofs.YthbpjjlinebooaaDoor
open Go Pw
set_option maxRecDepth 20000
set_option maxHeartbeats 4000000
set_option maxHeartbeats 1000000
instance : StrT Tryd.prog 9 := ⟨Tryd.underlying9⟩
instance {L : List Assn} {key tx : List UInt8} : FnR Tryd.prog 75 [str key, str tx] L (fun q => Vc (tx.length < 4294967296) (q (asResult [str (TagE key tx).1, .int .i64 ((TagE key tx).2 : Nat)]) L)) := ⟨fun q h => ⟨[], L, _, Tag_spec key tx h.l, .nil _, fun v L' hq => by rw [hq.1, hq.2]; exact h.r⟩⟩
instance {L : List Assn} {a b : List UInt8} : FnR Tryd.prog 62 [str a, str b] L (fun q => Vc (a.length < 4294967296) (q (.bool (decide (a = b))) L)) := ⟨fun q h => ⟨[], L, _, Same_spec a b h.l, .nil _, fun v L' hq => by rw [hq.1, hq.2]; exact h.r⟩⟩

def pad16 (n : Nat) : List UInt8 := List.replicate ((16 - n % 16) % 16) 0
def gatherE (ad c : List UInt8) : List UInt8 := ad ++ pad16 ad.length ++ c ++ pad16 c.length ++ leB ad.length 8 ++ leB c.length 8
/-- The tag of what was enciphered. -/
def sealE (key nonce ad c : List UInt8) : List UInt8 := (TagE ((blockE key nonce 0).take 32) (gatherE ad c)).1
theorem gatherE_len (ad c : List UInt8) : (gatherE ad c).length ≤ ad.length + c.length + 46 := by
  simp only [gatherE, pad16, List.length_append, List.length_replicate, leB_len]; omega
attribute [local irreducible] leB TagE
theorem tag_spec (key nonce ad cc : List UInt8) (h1 : key.length = 32) (h2 : nonce.length = 12) (ha : ad.length < 262144) (hc : cc.length < 262144) :
    Sat Tryd.prog 55 [str key, str nonce, str ad, str cc] [quA] (fun u L' => u = str (sealE key nonce ad cc) ∧ L' = [quA]) := by
  all_goals
    refine Sat.enter Tryd.func55 rfl Tryd.ntmps55 rfl (fun c R => ?_)
    try simp only [List.cons_append, List.nil_append]
    repeat' (first
      | (refine T.atB 0 ?_; refine T.ent (Ent.nil (e := 5) (sz := 1)) ?_; refine T.unb 0 2 ?_)
      | (refine T.atB 2 ?_; refine T.unb 2 2 ?_)
      | refine Vc.mk ⟨h1, h2, by decide⟩ ?_
      | (refine Vc.mk (by first | (simp only [true_and, and_true, List.length_append, List.length_map, List.length_replicate, leB_len, blockE_len, List.length_nil, List.nil_append, Nat.zero_add, List.length_take, List.length_drop]; done) | (simp only [true_and, and_true, List.length_append, List.length_map, List.length_replicate, leB_len, blockE_len, List.length_nil, List.nil_append, Nat.zero_add, List.length_take, List.length_drop]; omega)) ?_)
      | (first | (simp only [List.length_map, blockE_len, List.length_replicate]; done) | (simp only [List.length_map, blockE_len, List.length_replicate]; omega))
      | exact Fini.mk ⟨rfl, rfl⟩
      | exact Fini.mk ⟨by rw [sealE, gatherE, pad16, pad16]; rfl, rfl⟩
      | refine T.pl 14 [4] (.p 0 (.p 2 (.d 1 (.d 3 (.n 4 (.p 5 (.p 6 (.p 7 (.p 8 (.p 9 .fin)))))))))) ?_
      | refine And.intro (fun hc => ?_) (fun hc => ?_)
      | refine And.intro ?_ ?_
      | intro b
      | refine stp ?_
      | refine TQ.finC ?_
      | refine TQ.finC2 ?_
      | refine TQ.finC3 ?_
      | refine ⟨fun hc => ?_, fun hc => ?_⟩
      | refine Ei.f ?_
      | refine ⟨?_, ?_⟩
      | intro b
      | omega
      | (dsimp only; omega)
      | fail)

end Go.Proofs.YthbpjjlinebooaaDoor


namespace Go.Proofs.YthbpjjlinebooaaDoor
open Go Pw
set_option maxRecDepth 20000
set_option maxHeartbeats 4000000
set_option maxHeartbeats 1000000
instance {L : List Assn} {R : List Assn} {key nonce ad cc : List UInt8} [hd : DelC quA L R] : FnR Tryd.prog 55 [str key, str nonce, str ad, str cc] L (fun q => Vc (key.length = 32 ∧ nonce.length = 12 ∧ ad.length < 262144 ∧ cc.length < 262144) (q (str (sealE key nonce ad cc)) (quA :: R))) := ⟨fun q h => ⟨_, R, _, tag_spec key nonce ad cc h.l.1 h.l.2.1 h.l.2.2.1 h.l.2.2.2, Pick.of1 hd.h, fun v L' hq => by rw [hq.1, hq.2]; exact h.r⟩⟩

theorem sealE_len (key nonce ad c : List UInt8) : (sealE key nonce ad c).length = 16 := by
  rw [sealE, TagE, if_pos (by rw [List.length_take, blockE_len]; rfl)]
  simp only [tagE, sixE, List.length_append, leB_len]
def SealE (key nonce ad s : List UInt8) : List UInt8 × Nat :=
  if key.length = 32 ∧ nonce.length = 12 then
    if 65536 < max ad.length s.length then ([], 4) else (turnedE key nonce s ++ sealE key nonce ad (turnedE key nonce s), 0)
  else ([], 2)
attribute [local irreducible] turnedE sealE
theorem Seal_spec (key nonce ad s : List UInt8) (ha : ad.length < 4294967296) (hs : s.length < 4294967296) :
    Sat Tryd.prog 38 [str key, str nonce, str ad, str s] [quA] (fun u L' => u = asResult [str (SealE key nonce ad s).1, .int .i64 (SealE key nonce ad s).2] ∧ L' = [quA]) := by
  all_goals
    refine Sat.enter Tryd.func38 rfl Tryd.ntmps38 rfl (fun c R => ?_)
    try simp only [List.cons_append, List.nil_append]
    repeat' (first
      | (first | refine Vc.mk ⟨(Decidable.not_not.1 ‹¬¬(key.length = 32 ∧ nonce.length = 12)›).1, (Decidable.not_not.1 ‹¬¬(key.length = 32 ∧ nonce.length = 12)›).2, by omega⟩ ?_ | refine Vc.mk ⟨(Decidable.not_not.1 ‹¬¬(key.length = 32 ∧ nonce.length = 12)›).1, (Decidable.not_not.1 ‹¬¬(key.length = 32 ∧ nonce.length = 12)›).2, by omega, by rw [turnedE_len]; omega⟩ ?_)
      | exact Fini.mk ⟨by rw [SealE, if_neg ‹_›]; rfl, rfl⟩
      | exact Fini.mk ⟨by rw [SealE, if_pos (Decidable.not_not.1 ‹¬¬(key.length = 32 ∧ nonce.length = 12)›), if_pos ‹_›]; rfl, rfl⟩
      | exact Fini.mk ⟨by rw [SealE, if_pos (Decidable.not_not.1 ‹¬¬(key.length = 32 ∧ nonce.length = 12)›), if_neg ‹_›]; rfl, rfl⟩
      | (rw [turnedE_len, sealE_len]; omega)
      | refine And.intro (fun hc => ?_) (fun hc => ?_)
      | refine And.intro ?_ ?_
      | intro b
      | refine stp ?_
      | refine TQ.finC ?_
      | refine TQ.finC2 ?_
      | refine TQ.finC3 ?_
      | refine ⟨fun hc => ?_, fun hc => ?_⟩
      | refine Ei.f ?_
      | refine ⟨?_, ?_⟩
      | intro b
      | omega
      | (dsimp only; omega)
      | fail)

instance {n : Nat} {a b : Value} : Pu Tryd.prog (.pick (.bool (decide (n < 0))) a b) (fun k => k b) := inferInstanceAs (Pu Tryd.prog (.pick (.bool false) a b) (fun k => k b))
def OpenE (key nonce ad s : List UInt8) : List UInt8 × Nat :=
  if key.length = 32 ∧ nonce.length = 12 then
    if 65536 < max ad.length (s.length - 16) then ([], 4)
    else if s.length < 16 ∨ ¬ sealE key nonce ad (s.take (s.length - 16)) = s.drop (s.length - 16) then ([], 130)
    else (turnedE key nonce (s.take (s.length - 16)), 0)
  else ([], 2)
theorem Open_long (key nonce ad s : List UInt8) (ha : ad.length < 4294967296) (hs : s.length < 4294967296) (h16 : 16 ≤ s.length) :
    Sat Tryd.prog 42 [str key, str nonce, str ad, str s] [quA] (fun u L' => u = asResult [str (OpenE key nonce ad s).1, .int .i64 (OpenE key nonce ad s).2] ∧ L' = [quA]) := by
  all_goals
    refine Sat.enter Tryd.func42 rfl Tryd.ntmps42 rfl (fun c R => ?_)
    try simp only [List.cons_append, List.nil_append]
    repeat' (first
      | (first | refine Vc.mk ⟨(Decidable.not_not.1 ‹¬¬(key.length = 32 ∧ nonce.length = 12)›).1, (Decidable.not_not.1 ‹¬¬(key.length = 32 ∧ nonce.length = 12)›).2, by omega, by rw [List.length_take]; omega⟩ ?_ | refine Vc.mk ⟨(Decidable.not_not.1 ‹¬¬(key.length = 32 ∧ nonce.length = 12)›).1, (Decidable.not_not.1 ‹¬¬(key.length = 32 ∧ nonce.length = 12)›).2, by rw [List.length_take]; omega⟩ ?_ | refine Vc.mk (by rw [sealE_len]; omega) ?_)
      | exact Fini.mk ⟨by rw [OpenE, if_neg ‹_›]; rfl, rfl⟩
      | exact Fini.mk ⟨by rw [OpenE, if_pos (Decidable.not_not.1 ‹¬¬(key.length = 32 ∧ nonce.length = 12)›), if_pos ‹_›]; rfl, rfl⟩
      | exact Fini.mk ⟨by rw [OpenE, if_pos (Decidable.not_not.1 ‹¬¬(key.length = 32 ∧ nonce.length = 12)›), if_neg ‹¬ 65536 < _›, if_pos (.inr (by rw [Nat.max_zero] at hc; exact hc))]; rfl, rfl⟩
      | exact Fini.mk ⟨by rw [Nat.max_zero] at hc; rw [OpenE, if_pos (Decidable.not_not.1 ‹¬¬(key.length = 32 ∧ nonce.length = 12)›), if_neg ‹¬ 65536 < _›, if_neg (fun h => h.elim (fun h => by omega) (fun h => hc h))]; rfl, rfl⟩
      | rw [List.length_take]; omega
      | refine T.pl 6 [10, 15] (.p 0 (.p 1 (.p 2 (.p 3 (.p 4 (.p 5 (.p 6 (.p 7 (.p 8 (.p 9 (.p 11 (.p 12 (.p 13 (.p 14 (.n 10 (.n 15 (.p 16 (.p 17 (.p 18 .fin))))))))))))))))))) ?_
      | refine And.intro (fun hc => ?_) (fun hc => ?_)
      | refine And.intro ?_ ?_
      | intro b
      | refine stp ?_
      | refine TQ.finC ?_
      | refine TQ.finC2 ?_
      | refine TQ.finC3 ?_
      | refine ⟨fun hc => ?_, fun hc => ?_⟩
      | refine Ei.f ?_
      | refine ⟨?_, ?_⟩
      | intro b
      | omega
      | (dsimp only; omega)
      | fail)
theorem Open_short (key nonce ad s : List UInt8) (ha : ad.length < 4294967296) (hs : s.length < 4294967296) (h16 : s.length < 16) :
    Sat Tryd.prog 42 [str key, str nonce, str ad, str s] [quA] (fun u L' => u = asResult [str (OpenE key nonce ad s).1, .int .i64 (OpenE key nonce ad s).2] ∧ L' = [quA]) := by
  all_goals
    refine Sat.enter Tryd.func42 rfl Tryd.ntmps42 rfl (fun c R => ?_)
    try simp only [List.cons_append, List.nil_append]
    repeat' (first
      | (first | refine Vc.mk ⟨(Decidable.not_not.1 ‹¬¬(key.length = 32 ∧ nonce.length = 12)›).1, (Decidable.not_not.1 ‹¬¬(key.length = 32 ∧ nonce.length = 12)›).2, by omega, by rw [List.length_take]; omega⟩ ?_ | refine Vc.mk ⟨(Decidable.not_not.1 ‹¬¬(key.length = 32 ∧ nonce.length = 12)›).1, (Decidable.not_not.1 ‹¬¬(key.length = 32 ∧ nonce.length = 12)›).2, by rw [List.length_take]; omega⟩ ?_ | refine Vc.mk (by rw [sealE_len]; omega) ?_)
      | exact Fini.mk ⟨by rw [OpenE, if_neg ‹_›]; rfl, rfl⟩
      | exact Fini.mk ⟨by rw [OpenE, if_pos (Decidable.not_not.1 ‹¬¬(key.length = 32 ∧ nonce.length = 12)›), if_pos ‹_›]; rfl, rfl⟩
      | (have hlim : (IntKind.i64.lim : Int) = 9223372036854775808 := rfl; omega)
      | exact Fini.mk ⟨by rw [OpenE, if_pos (Decidable.not_not.1 ‹¬¬(key.length = 32 ∧ nonce.length = 12)›), if_pos (by omega)]; rfl, rfl⟩
      | exact Fini.mk ⟨by rw [OpenE, if_pos (Decidable.not_not.1 ‹¬¬(key.length = 32 ∧ nonce.length = 12)›), if_neg (by omega), if_pos (.inl h16)]; rfl, rfl⟩
      | refine T.pl 6 [10, 15] (.p 0 (.p 1 (.p 2 (.p 3 (.p 4 (.p 5 (.p 6 (.p 7 (.p 8 (.p 9 (.p 11 (.p 12 (.p 13 (.p 14 (.n 10 (.n 15 (.p 16 (.p 17 (.p 18 .fin))))))))))))))))))) ?_
      | refine And.intro (fun hc => ?_) (fun hc => ?_)
      | refine And.intro ?_ ?_
      | intro b
      | refine stp ?_
      | refine TQ.finC ?_
      | refine TQ.finC2 ?_
      | refine TQ.finC3 ?_
      | refine ⟨fun hc => ?_, fun hc => ?_⟩
      | refine Ei.f ?_
      | refine ⟨?_, ?_⟩
      | intro b
      | omega
      | (dsimp only; omega)
      | fail)

end Go.Proofs.YthbpjjlinebooaaDoor


namespace Go.Proofs.YthbpjjlinebooaaDoor
open Go Pw
set_option maxRecDepth 20000
set_option maxHeartbeats 4000000
set_option maxHeartbeats 1000000

/-! What is sealed opens. -/
theorem turn_turn {key nonce s : List UInt8} : turnedE key nonce (turnedE key nonce s) = s :=
  (gt_ext (by rw [turnedE_len, turnedE_len])).1 fun j hj => by
    rw [turnedE_len, turnedE_len] at hj
    rw [turnedE, turnP_get (by rw [turnedE_len]; exact hj), if_pos (by rw [turnedE_len]; exact hj), turnedE, turnP_get hj, if_pos hj, UInt8.xor_assoc, UInt8.xor_self, UInt8.xor_zero]
theorem open_seal {key nonce ad s : List UInt8} (h1 : key.length = 32) (h2 : nonce.length = 12) (h3 : max ad.length s.length ≤ 65536) : OpenE key nonce ad (SealE key nonce ad s).1 = (s, 0) ∧ (SealE key nonce ad s).2 = 0 ∧ (SealE key nonce ad s).1.length = s.length + 16 := by
  have e : SealE key nonce ad s = (turnedE key nonce s ++ sealE key nonce ad (turnedE key nonce s), 0) := by rw [SealE, if_pos ⟨h1, h2⟩, if_neg (by omega)]
  have hl : (turnedE key nonce s ++ sealE key nonce ad (turnedE key nonce s)).length = s.length + 16 := by rw [List.length_append, turnedE_len, sealE_len]
  have ht : (turnedE key nonce s ++ sealE key nonce ad (turnedE key nonce s)).take s.length = turnedE key nonce s := List.take_left' (turnedE_len _ _ _)
  have hd : (turnedE key nonce s ++ sealE key nonce ad (turnedE key nonce s)).drop s.length = sealE key nonce ad (turnedE key nonce s) := List.drop_left' (turnedE_len _ _ _)
  refine ⟨?_, by rw [e], by rw [e]; exact hl⟩
  rw [e]
  rw [OpenE, if_pos ⟨h1, h2⟩]
  rw [hl, Nat.add_sub_cancel, ht, hd, if_neg (by omega), if_neg (by intro h; rcases h with h | h; omega; exact h rfl), turn_turn]
abbrev k0 : List UInt8 := List.replicate 32 0
abbrev n0 : List UInt8 := List.replicate 12 0
def b0E : List UInt8 := blockE k0 n0 0
def c0E : List UInt8 := (SealE k0 n0 [97, 100] [97, 98, 99]).1
theorem al_b : BlockE k0 n0 0 = (b0E, 0) := by rw [BlockE, if_pos ⟨List.length_replicate, List.length_replicate⟩]; rfl
theorem al_b4 : b0E.take 4 = [118, 184, 224, 173] := by
  unfold b0E blockE
  decide +kernel
theorem al_bl : b0E.length = 64 := blockE_len _ _ _
theorem al_c : SealE k0 n0 [97, 100] [97, 98, 99] = (c0E, 0) := by
  rw [SealE, if_pos ⟨List.length_replicate, List.length_replicate⟩, if_neg (by decide), c0E, SealE, if_pos ⟨List.length_replicate, List.length_replicate⟩, if_neg (by decide)]
theorem al_cl : c0E.length = 19 := (open_seal List.length_replicate List.length_replicate (by decide)).2.2
theorem al_s : OpenE k0 n0 [97, 100] c0E = ([97, 98, 99], 0) := (open_seal List.length_replicate List.length_replicate (by decide)).1
theorem al_h : SealE k0 [115, 104, 111, 114, 116] [] [] = ([], 2) := by rw [SealE, if_neg (by decide)]
theorem al_t : TagE ([2] ++ k0.drop 1) [255, 255, 255, 255, 255, 255, 255, 255, 255, 255, 255, 255, 255, 255, 255, 255] = ([3] ++ k0.take 15, 0) := by decide +kernel
theorem al_g0 : OpenE k0 n0 [100, 97] c0E = ([], 130) := by
  have e : c0E = turnedE k0 n0 [97, 98, 99] ++ sealE k0 n0 [97, 100] (turnedE k0 n0 [97, 98, 99]) := by
    rw [c0E, SealE, if_pos ⟨List.length_replicate, List.length_replicate⟩, if_neg (by decide)]
  have ht : c0E.take 3 = turnedE k0 n0 [97, 98, 99] := by rw [e]; exact List.take_left' (turnedE_len _ _ _)
  have hd : c0E.drop 3 = sealE k0 n0 [97, 100] (turnedE k0 n0 [97, 98, 99]) := by rw [e]; exact List.drop_left' (turnedE_len _ _ _)
  rw [OpenE, if_pos ⟨List.length_replicate, List.length_replicate⟩, al_cl, if_neg (by decide)]
  rw [show 19 - 16 = 3 from rfl, ht, hd]
  have hx : ¬ sealE k0 n0 [100, 97] (turnedE k0 n0 [97, 98, 99]) = sealE k0 n0 [97, 100] (turnedE k0 n0 [97, 98, 99]) := by
    unfold sealE turnedE turnP ksE blockE
    decide +kernel
  exact if_pos (.inr hx)

end Go.Proofs.YthbpjjlinebooaaDoor

