/- Lemmas for the proofs of this seat: no statement of the seat is claimed here. -/
import Derived.Test.YtcidilijlgaohaaDoorA1
set_option linter.all false
namespace Go.Proofs.YtcidilijlgaohaaDoor
open Go Pw
set_option maxRecDepth 20000
set_option maxHeartbeats 4000000

theorem and31 {k : Nat} (h : k ≤ 31) : k &&& 31 = k := by rw [show (31 : Nat) = 2 ^ 5 - 1 from rfl, Nat.and_two_pow_sub_one_eq_mod]; exact Nat.mod_eq_of_lt (by omega)
def rotE (x k : Nat) : Nat := x * 2 ^ k % 4294967296 ||| x / 2 ^ (32 - k)
theorem rotE_lt {x k : Nat} (hx : x < 4294967296) : rotE x k < 4294967296 := Nat.or_lt_two_pow (n := 32) (Nat.mod_lt _ (by decide)) (Nat.lt_of_le_of_lt (Nat.div_le_self _ _) hx)
theorem bytes_spec (xs : List UInt8) (a : Option Addr) (k x n : Nat) (hn : n ≤ 8) (hx : xs.length ≤ 1048576) (hx2 : x < 18446744073709551616) :
    Sat Tryd.prog 31 [.slice a xs.length k, .int .u64 x, .int .i64 n] [sl 5 1 (.slice a xs.length k) xs.length (xs.map byteV)] (fun u L' => ∃ a k, u = .slice a (xs.length + n) k ∧ L' = [sl 5 1 (.slice a (xs.length + n) k) (xs.length + n) ((xs ++ leB x n).map byteV)]) := by
  all_goals
    refine Sat.enter Tryd.func31 rfl Tryd.ntmps31 rfl (fun c R => ?_)
    try simp only [List.cons_append, List.nil_append]
    repeat' (first
      | (refine T.lpa 0 [(1, _), (8, _)] ((0, a, k, xs.length, xs) : Nat × Option Addr × Nat × Nat × List UInt8) (fun s => [(9, .int .i64 (s.1 : Nat)), (0, .slice s.2.1 s.2.2.2.1 s.2.2.1)]) (fun s => [sl 5 1 (.slice s.2.1 s.2.2.2.1 s.2.2.1) s.2.2.2.1 (s.2.2.2.2.map byteV)]) (fun s => s.1 ≤ n ∧ s.2.2.2.1 = xs.length + s.1 ∧ s.2.2.2.2 = xs ++ leB x s.1) (fun s => n - s.1) ⟨Nat.zero_le _, rfl, by simp [leB]⟩ ?_; rintro ⟨i, a, k, m, ys⟩ g ⟨hI, hm, hy⟩; dsimp only at hI hm hy ⊢)
      | (refine TQ.rda (i + 1, _, _, m + 1, ys ++ [UInt8.ofNat (x / 2 ^ (8 * i))]) ?_ ?_; exact ⟨hc, by dsimp only; omega, by dsimp only; rw [hy, leB, List.append_assoc]⟩)
      | (obtain rfl : i = n := (by omega); subst hm hy; exact Fini.mk ⟨_, _, rfl, rfl⟩)
      | refine stp ?_
      | refine TQ.finC ?_
      | refine ⟨fun hc => ?_, fun hc => ?_⟩
      | refine Ei.f ?_
      | refine ⟨?_, ?_⟩
      | intro b
      | omega
      | (dsimp only; omega)
      | omega
      | (dsimp only; omega)
      | fail)
instance {L : List Assn} {R : List Assn} {xs : List UInt8} {a : Option Addr} {k x n m : Nat} {y z : Int} [hx : Nn y x] [hz : Nn z n] [hd : SlAt L (.slice a m k) 5 1 m (xs.map byteV) R] : FnR Tryd.prog 31 [.slice a m k, .int .u64 y, .int .i64 z] L (fun q => Vc (n ≤ 8 ∧ m = xs.length ∧ m ≤ 1048576 ∧ x < 18446744073709551616) (∀ a k, q (.slice a (m + n) k) (sl 5 1 (.slice a (m + n) k) (m + n) ((xs ++ leB x n).map byteV) :: R))) := ⟨fun q h => by
    obtain ⟨⟨h1, rfl, h2, h3⟩, h4⟩ := h
    exact ⟨_, R, _, by rw [hx.h, hz.h]; exact bytes_spec xs a k x n h1 h2 h3, Pick.of1 hd.h, fun v L' hq => by obtain ⟨a, k, h5, h6⟩ := hq; rw [h5, h6]; exact h4 a k⟩⟩
theorem rotl_spec (x k : Nat) (hk : k ≤ 31) (hx : x < 4294967296) :
    Sat Tryd.prog 41 [.int .u32 x, .int .i64 k] [] (fun u L' => u = .int .u32 (rotE x k : Nat) ∧ L' = []) := by
  have h31 := and31 hk
  all_goals
    refine Sat.enter Tryd.func41 rfl Tryd.ntmps41 rfl (fun c R => ?_)
    try simp only [List.cons_append, List.nil_append]
    repeat' (first
      | exact Fini.mk ⟨by rw [h31]; rfl, rfl⟩
      | refine stp ?_
      | refine TQ.finC ?_
      | refine ⟨fun hc => ?_, fun hc => ?_⟩
      | refine Ei.f ?_
      | refine ⟨?_, ?_⟩
      | intro b
      | omega
      | (dsimp only; omega)
      | omega
      | (dsimp only; omega)
      | fail)
instance {L : List Assn} {x k : Nat} {y z : Int} [hy : Nn y x] [hz : Nn z k] : FnR Tryd.prog 41 [.int .u32 y, .int .i64 z] L (fun kk => Vc (k ≤ 31 ∧ x < 4294967296) (kk (.int .u32 (rotE x k : Nat)) L)) := ⟨fun kk h => ⟨[], L, _, (by rw [hy.h, hz.h]; exact rotl_spec x k h.l.1 h.l.2), .nil _, fun v L' hq => by rw [hq.1, hq.2]; exact h.r⟩⟩

end Go.Proofs.YtcidilijlgaohaaDoor
