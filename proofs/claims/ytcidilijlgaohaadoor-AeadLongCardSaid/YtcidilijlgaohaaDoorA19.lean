/- Lemmas for the proofs of this seat: no statement of the seat is claimed here. -/
import Derived.Test.YtcidilijlgaohaaDoorA18
set_option linter.all false
namespace Go.Proofs.YtcidilijlgaohaaDoor
open Go Pw
set_option maxRecDepth 20000
set_option maxHeartbeats 4000000
set_option maxHeartbeats 1000000
instance {L : List Assn} {R : List Assn} {key nonce : List UInt8} {y : Int} {n : Nat} [hy : Nn y n] [hd : DelC quA L R] : FnR Tryd.prog 11 [str key, str nonce, .int .u32 y] L (fun q => Vc (n < 4294967296) (q (asResult [str (BlockE key nonce n).1, .int .i64 ((BlockE key nonce n).2 : Nat)]) (quA :: R))) := ⟨fun q h => ⟨_, R, _, by rw [hy.h]; exact Block_spec key nonce n h.l, Pick.of1 hd.h, fun v L' hq => by rw [hq.1, hq.2]; exact h.r⟩⟩
instance {L : List Assn} {R : List Assn} {key nonce ad s : List UInt8} [hd : DelC quA L R] : FnR Tryd.prog 16 [str key, str nonce, str ad, str s] L (fun q => Vc (ad.length < 4294967296 ∧ s.length < 4294967296) (q (asResult [str (SealE key nonce ad s).1, .int .i64 ((SealE key nonce ad s).2 : Nat)]) (quA :: R))) := ⟨fun q h => ⟨_, R, _, Seal_spec key nonce ad s h.l.1 h.l.2, Pick.of1 hd.h, fun v L' hq => by rw [hq.1, hq.2]; exact h.r⟩⟩
theorem Open_spec (key nonce ad s : List UInt8) (ha : ad.length < 4294967296) (hs : s.length < 4294967296) : Sat Tryd.prog 18 [str key, str nonce, str ad, str s] [quA] (fun u L' => u = asResult [str (OpenE key nonce ad s).1, .int .i64 (OpenE key nonce ad s).2] ∧ L' = [quA]) := by
  by_cases h : 16 ≤ s.length
  · exact Open_long key nonce ad s ha hs h
  · exact Open_short key nonce ad s ha hs (by omega)
instance {L : List Assn} {R : List Assn} {key nonce ad s : List UInt8} [hd : DelC quA L R] : FnR Tryd.prog 18 [str key, str nonce, str ad, str s] L (fun q => Vc (ad.length < 4294967296 ∧ s.length < 4294967296) (q (asResult [str (OpenE key nonce ad s).1, .int .i64 ((OpenE key nonce ad s).2 : Nat)]) (quA :: R))) := ⟨fun q h => ⟨_, R, _, Open_spec key nonce ad s h.l.1 h.l.2, Pick.of1 hd.h, fun v L' hq => by rw [hq.1, hq.2]; exact h.r⟩⟩
attribute [local irreducible] b0E c0E BlockE SealE OpenE TagE
theorem alive_spec  :
    Sat Tryd.prog 10 [] [quA] (fun u L' => u = .bool true ∧ L' = [quA]) := by
  all_goals
    refine Sat.enter Tryd.func10 rfl Tryd.ntmps10 rfl (fun c R => ?_)
    try simp only [List.cons_append, List.nil_append]
    repeat' (first
      | (rw [al_b]; dsimp only)
      | (rw [al_c]; dsimp only)
      | (rw [al_s]; dsimp only)
      | (rw [al_g0]; dsimp only)
      | (rw [al_h]; dsimp only)
      | (rw [al_t]; dsimp only)
      | (refine Vc.mk (by first | (simp only [true_and, and_true, List.length_replicate, al_bl, al_cl, List.length_cons, List.length_nil, List.length_append, List.length_drop]; done) | (simp only [true_and, and_true, List.length_replicate, al_bl, al_cl, List.length_cons, List.length_nil, List.length_append, List.length_drop]; omega)) ?_)
      | exact Fini.mk ⟨congrArg Value.bool (decide_eq_true (by decide)), rfl⟩
      | exact absurd al_bl hc
      | exact absurd al_b4 hc
      | exact absurd al_cl hc
      | exact absurd rfl hc
      | refine And.intro (fun hc => ?_) (fun hc => ?_)
      | refine And.intro ?_ ?_
      | intro b
      | refine stp ?_
      | refine TQ.finC ?_
      | refine ⟨fun hc => ?_, fun hc => ?_⟩
      | refine Ei.f ?_
      | refine ⟨?_, ?_⟩
      | intro b
      | omega
      | (dsimp only; omega)
      | ((try dsimp only); rw [show decide ((0 : Nat) = 0) = true from rfl])
      | ((try dsimp only); rw [show decide ((130 : Nat) = 130) = true from rfl])
      | ((try dsimp only); rw [show decide ((2 : Nat) = 2) = true from rfl])
      | ((try dsimp only); rw [@decide_eq_true (_ = _) _ rfl])
      | ((try dsimp only); rw [decide_eq_true (p := ([97, 98, 99] : List UInt8) = [97, 98, 99]) rfl])
      | ((try dsimp only); rw [decide_eq_true (p := ([97, 98] : List UInt8) = [97, 98]) rfl])
      | ((try dsimp only); rw [decide_eq_false (p := ([97, 98] : List UInt8) = [97, 98, 99]) (by decide)])
      | fail)

end Go.Proofs.YtcidilijlgaohaaDoor
