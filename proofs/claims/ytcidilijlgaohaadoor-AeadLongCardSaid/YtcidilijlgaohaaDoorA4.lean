/- Lemmas for the proofs of this seat: no statement of the seat is claimed here. -/
import Derived.Test.YtcidilijlgaohaaDoorA3
set_option linter.all false
namespace Go.Proofs.YtcidilijlgaohaaDoor
open Go Pw
set_option maxRecDepth 20000
set_option maxHeartbeats 4000000

theorem and32 (x : Nat) : x &&& 4294967295 = x % 4294967296 := by rw [show (4294967295 : Nat) = 2 ^ 32 - 1 from rfl, Nat.and_two_pow_sub_one_eq_mod]
theorem mul_split (a b c d k : Nat) : (a * k + b) * (c * k + d) = a * c * (k * k) + (a * d + b * c) * k + b * d := by grind
theorem mul_hi (x y : Nat) (hx : x < 18446744073709551616) (hy : y < 18446744073709551616) : ((x / 2 ^ 32 * (y / 2 ^ 32) % 18446744073709551616 + (x / 2 ^ 32 * (y &&& 4294967295) % 18446744073709551616 + (x &&& 4294967295) * (y &&& 4294967295) % 18446744073709551616 / 2 ^ 32) % 18446744073709551616 / 2 ^ 32) % 18446744073709551616 +
    (((x / 2 ^ 32 * (y &&& 4294967295) % 18446744073709551616 + (x &&& 4294967295) * (y &&& 4294967295) % 18446744073709551616 / 2 ^ 32) % 18446744073709551616 &&& 4294967295) + (x &&& 4294967295) * (y / 2 ^ 32) % 18446744073709551616) % 18446744073709551616 / 2 ^ 32) % 18446744073709551616 = x * y / 18446744073709551616 := by
  rw [and32, and32, and32, show (2 : Nat) ^ 32 = 4294967296 from rfl]
  obtain ⟨a, ha⟩ : ∃ a, a = x / 4294967296 := ⟨_, rfl⟩
  obtain ⟨b, hb⟩ : ∃ b, b = x % 4294967296 := ⟨_, rfl⟩
  obtain ⟨c, hc⟩ : ∃ c, c = y / 4294967296 := ⟨_, rfl⟩
  obtain ⟨d, hd⟩ : ∃ d, d = y % 4294967296 := ⟨_, rfl⟩
  have hxe : x = a * 4294967296 + b := by omega
  have hye : y = c * 4294967296 + d := by omega
  rw [← ha, ← hb, ← hc, ← hd]
  have e := mul_split a b c d 4294967296
  rw [← hxe, ← hye] at e
  rw [e]
  have h1 : a * c ≤ 4294967295 * 4294967295 := Nat.mul_le_mul (by omega) (by omega)
  have h2 : a * d ≤ 4294967295 * 4294967295 := Nat.mul_le_mul (by omega) (by omega)
  have h3 : b * c ≤ 4294967295 * 4294967295 := Nat.mul_le_mul (by omega) (by omega)
  have h4 : b * d ≤ 4294967295 * 4294967295 := Nat.mul_le_mul (by omega) (by omega)
  generalize a * c = p at *
  generalize a * d = q at *
  generalize b * c = r at *
  generalize b * d = s at *
  omega
theorem mul64_spec (x y : Nat) (hx : x < 18446744073709551616) (hy : y < 18446744073709551616) :
    Sat Tryd.prog 44 [.int .u64 x, .int .u64 y] [] (fun u L' => u = .tuple #[.int .u64 (x * y / 18446744073709551616 : Nat), .int .u64 (x * y % 18446744073709551616 : Nat)] ∧ L' = []) := by
  all_goals
    refine Sat.enter Tryd.func44 rfl Tryd.ntmps44 rfl (fun c R => ?_)
    try simp only [List.cons_append, List.nil_append]
    repeat' (first
      | exact Fini.mk ⟨by rw [mul_hi x y hx hy]; rfl, rfl⟩
      | refine stp ?_
      | refine TQ.finC ?_
      | refine ⟨fun hc => ?_, fun hc => ?_⟩
      | refine Ei.f ?_
      | refine ⟨?_, ?_⟩
      | intro b
      | omega
      | (dsimp only; omega)
      | omega
      | (dsimp only; omega)
      | omega
      | (dsimp only; omega)
      | omega
      | (dsimp only; omega)
      | fail)
instance {L : List Assn} {x y : Nat} {a b : Int} [hx : Nn a x] [hy : Nn b y] : FnR Tryd.prog 44 [.int .u64 a, .int .u64 b] L (fun kk => Vc (x < 18446744073709551616 ∧ y < 18446744073709551616) (kk (.tuple #[.int .u64 (x * y / 18446744073709551616 : Nat), .int .u64 (x * y % 18446744073709551616 : Nat)]) L)) := ⟨fun kk h => ⟨[], L, _, (by rw [hx.h, hy.h]; exact mul64_spec x y h.l.1 h.l.2), .nil _, fun v L' hq => by rw [hq.1, hq.2]; exact h.r⟩⟩

end Go.Proofs.YtcidilijlgaohaaDoor
