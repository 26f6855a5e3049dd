/- Lemmas for the proofs of this seat: no statement of the seat is claimed here. -/
import Derived.Test.YtcidilijlgaohaaDoorA17
set_option linter.all false
namespace Go.Proofs.YtcidilijlgaohaaDoor
open Go Pw
set_option maxRecDepth 20000
set_option maxHeartbeats 4000000
set_option maxHeartbeats 1000000

/-! What is sealed opens. -/
theorem turn_turn {key nonce s : List UInt8} : turnedE key nonce (turnedE key nonce s) = s :=
  (gt_ext (by rw [turnedE_len, turnedE_len])).1 fun j hj => by
    rw [turnedE_len, turnedE_len] at hj
    rw [turnedE, turnP_get (by rw [turnedE_len]; exact hj), if_pos (by rw [turnedE_len]; exact hj), turnedE, turnP_get hj, if_pos hj, UInt8.xor_assoc, UInt8.xor_self, UInt8.xor_zero]
theorem open_seal {key nonce ad s : List UInt8} (h1 : key.length = 32) (h2 : nonce.length = 12) (h3 : max ad.length s.length ≤ 65536) : OpenE key nonce ad (SealE key nonce ad s).1 = (s, 0) ∧ (SealE key nonce ad s).2 = 0 ∧ (SealE key nonce ad s).1.length = s.length + 16 := by
  have e : SealE key nonce ad s = (turnedE key nonce s ++ sealE key nonce ad (turnedE key nonce s), 0) := by rw [SealE, if_pos ⟨h1, h2⟩, if_neg (by omega)]
  have hl : (turnedE key nonce s ++ sealE key nonce ad (turnedE key nonce s)).length = s.length + 16 := by rw [List.length_append, turnedE_len, sealE_len]
  have ht : (turnedE key nonce s ++ sealE key nonce ad (turnedE key nonce s)).take s.length = turnedE key nonce s := List.take_left' (turnedE_len _ _ _)
  have hd : (turnedE key nonce s ++ sealE key nonce ad (turnedE key nonce s)).drop s.length = sealE key nonce ad (turnedE key nonce s) := List.drop_left' (turnedE_len _ _ _)
  refine ⟨?_, by rw [e], by rw [e]; exact hl⟩
  rw [e]
  rw [OpenE, if_pos ⟨h1, h2⟩]
  rw [hl, Nat.add_sub_cancel, ht, hd, if_neg (by omega), if_neg (by intro h; rcases h with h | h; omega; exact h rfl), turn_turn]
abbrev k0 : List UInt8 := List.replicate 32 0
abbrev n0 : List UInt8 := List.replicate 12 0
def b0E : List UInt8 := blockE k0 n0 0
def c0E : List UInt8 := (SealE k0 n0 [97, 100] [97, 98, 99]).1
theorem al_b : BlockE k0 n0 0 = (b0E, 0) := by rw [BlockE, if_pos ⟨List.length_replicate, List.length_replicate⟩]; rfl
theorem al_b4 : b0E.take 4 = [118, 184, 224, 173] := by
  unfold b0E blockE
  decide +kernel
theorem al_bl : b0E.length = 64 := blockE_len _ _ _
theorem al_c : SealE k0 n0 [97, 100] [97, 98, 99] = (c0E, 0) := by
  rw [SealE, if_pos ⟨List.length_replicate, List.length_replicate⟩, if_neg (by decide), c0E, SealE, if_pos ⟨List.length_replicate, List.length_replicate⟩, if_neg (by decide)]
theorem al_cl : c0E.length = 19 := (open_seal List.length_replicate List.length_replicate (by decide)).2.2
theorem al_s : OpenE k0 n0 [97, 100] c0E = ([97, 98, 99], 0) := (open_seal List.length_replicate List.length_replicate (by decide)).1
theorem al_h : SealE k0 [115, 104, 111, 114, 116] [] [] = ([], 2) := by rw [SealE, if_neg (by decide)]
theorem al_t : TagE ([2] ++ k0.drop 1) [255, 255, 255, 255, 255, 255, 255, 255, 255, 255, 255, 255, 255, 255, 255, 255] = ([3] ++ k0.take 15, 0) := by decide +kernel
theorem al_g0 : OpenE k0 n0 [100, 97] c0E = ([], 130) := by
  have e : c0E = turnedE k0 n0 [97, 98, 99] ++ sealE k0 n0 [97, 100] (turnedE k0 n0 [97, 98, 99]) := by
    rw [c0E, SealE, if_pos ⟨List.length_replicate, List.length_replicate⟩, if_neg (by decide)]
  have ht : c0E.take 3 = turnedE k0 n0 [97, 98, 99] := by rw [e]; exact List.take_left' (turnedE_len _ _ _)
  have hd : c0E.drop 3 = sealE k0 n0 [97, 100] (turnedE k0 n0 [97, 98, 99]) := by rw [e]; exact List.drop_left' (turnedE_len _ _ _)
  rw [OpenE, if_pos ⟨List.length_replicate, List.length_replicate⟩, al_cl, if_neg (by decide)]
  rw [show 19 - 16 = 3 from rfl, ht, hd]
  have hx : ¬ sealE k0 n0 [100, 97] (turnedE k0 n0 [97, 98, 99]) = sealE k0 n0 [97, 100] (turnedE k0 n0 [97, 98, 99]) := by
    unfold sealE turnedE turnP ksE blockE
    decide +kernel
  exact if_pos (.inr hx)

end Go.Proofs.YtcidilijlgaohaaDoor
