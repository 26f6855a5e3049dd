/- Lemmas for the proofs of this seat: no statement of the seat is claimed here. -/
import Derived.Test.YtcidilijlgaohaaDoorA0
set_option linter.all false
namespace Go.Proofs.YtcidilijlgaohaaDoor
open Go Pw
set_option maxRecDepth 20000
set_option maxHeartbeats 4000000

def leE : List UInt8 → Nat
  | [] => 0
  | b :: l => b.toNat + 256 * leE l
theorem leE_lt : ∀ l : List UInt8, leE l < 256 ^ l.length
  | [] => by decide
  | b :: l => by
    have h1 := leE_lt l
    have h2 := b.toNat_lt
    rw [leE, List.length_cons, Nat.pow_succ]
    have : (leE l + 1) * 256 ≤ 256 ^ l.length * 256 := Nat.mul_le_mul_right _ h1
    omega
theorem leE_app : ∀ l m : List UInt8, leE (l ++ m) = leE l + 256 ^ l.length * leE m
  | [], m => by simp [leE]
  | b :: l, m => by
    rw [List.cons_append, leE, leE, leE_app l m, List.length_cons, Nat.pow_succ, Nat.mul_add, ← Nat.mul_assoc, Nat.mul_comm 256 (256 ^ l.length)]
    omega
theorem or_add {a b n : Nat} (h : a < 2 ^ n) : a ||| b * 2 ^ n = a + b * 2 ^ n := by
  rw [Nat.mul_comm, Nat.or_comm, ← Nat.two_pow_add_eq_or_of_lt h, Nat.add_comm]
theorem leE_step {l : List UInt8} {i : Nat} (hi : i < l.length) (hl : l.length ≤ 8) : leE (l.take i) ||| (gt l i).toNat * 2 ^ (8 * i) % 18446744073709551616 = leE (l.take (i + 1)) := by
  have h1 := leE_lt (l.take i)
  have hc := (gt l i).toNat_lt
  have h2 : (gt l i).toNat * 2 ^ (8 * i) < 18446744073709551616 := by
    have h3 : 2 ^ (8 * i) ≤ 2 ^ 56 := Nat.pow_le_pow_right (by omega) (by omega)
    have h4 : (gt l i).toNat * 2 ^ (8 * i) ≤ 255 * 2 ^ 56 := Nat.mul_le_mul (by omega) h3
    omega
  rw [Nat.mod_eq_of_lt h2, List.take_add_one, gt_get hi, leE_app]
  rw [List.length_take, Nat.min_eq_left (by omega)] at h1 ⊢
  have e : 256 ^ i = 2 ^ (8 * i) := by rw [Nat.pow_mul]
  rw [e] at h1 ⊢
  rw [or_add h1]
  simp [leE, Nat.mul_comm]
theorem leE_lt64 {l : List UInt8} (h : l.length ≤ 8) : leE l < 18446744073709551616 := by
  have h1 := leE_lt l
  have h2 : 256 ^ l.length ≤ 256 ^ 8 := Nat.pow_le_pow_right (by omega) h
  omega
def leB (x : Nat) : Nat → List UInt8
  | 0 => []
  | n + 1 => leB x n ++ [UInt8.ofNat (x / 2 ^ (8 * n))]
theorem leB_len (x : Nat) : ∀ n, (leB x n).length = n
  | 0 => rfl
  | n + 1 => by rw [leB, List.length_append, leB_len x n]; rfl
instance {n : Nat} : Inv byteV (.int .u8 ((n % 256 : Nat) : Int)) (UInt8.ofNat n) True := ⟨fun _ => by simp [byteV]⟩
theorem may_spec (key nonce : List UInt8) :
    Sat Tryd.prog 21 [str key, str nonce] [] (fun u L' => u = .bool (decide (key.length = 32 ∧ nonce.length = 12)) ∧ L' = []) := by
  all_goals
    refine Sat.enter Tryd.func21 rfl Tryd.ntmps21 rfl (fun c R => ?_)
    try simp only [List.cons_append, List.nil_append]
    repeat' (first
      | exact Fini.mk ⟨by simp [asResult, *], rfl⟩
      | refine stp ?_
      | refine TQ.finC ?_
      | refine ⟨fun hc => ?_, fun hc => ?_⟩
      | refine Ei.f ?_
      | refine ⟨?_, ?_⟩
      | intro b
      | fail)
instance {L : List Assn} {key nonce : List UInt8} : FnR Tryd.prog 21 [str key, str nonce] L (fun kk => Vc (True) (kk (.bool (decide (key.length = 32 ∧ nonce.length = 12))) L)) := ⟨fun kk h => ⟨[], L, _, may_spec key nonce, .nil _, fun v L' hq => by rw [hq.1, hq.2]; exact h.r⟩⟩
theorem littleS_spec (l : List UInt8) (hl : l.length ≤ 8) :
    Sat Tryd.prog 25 [str l] [] (fun u L' => u = .int .u64 (leE l : Nat) ∧ L' = []) := by
  all_goals
    refine Sat.enter Tryd.func25 rfl Tryd.ntmps25 rfl (fun c R => ?_)
    try simp only [List.cons_append, List.nil_append]
    repeat' (first
      | (refine T.lpa 0 [(0, _)] (0 : Nat) (fun i => [(2, .int .u64 (leE (l.take i) : Nat)), (6, .int .i64 (i : Nat)), (5, .int .i64 (l.length : Nat))]) (fun _ => []) (fun i => i ≤ l.length) (fun i => l.length - i) (Nat.zero_le _) ?_; intro i g hI; have h64 := leE_lt64 (l := l.take i) (by rw [List.length_take]; omega))
      | refine TQ.rda (i + 1) ?_ ?_ rfl ⟨congrArg vU64 (leE_step hc hl), rfl, rfl, rfl, trivial⟩
      | exact Fini.mk ⟨by (obtain rfl : i = l.length := by omega); rw [List.take_length]; rfl, rfl⟩
      | refine stp ?_
      | refine TQ.finC ?_
      | refine ⟨fun hc => ?_, fun hc => ?_⟩
      | refine Ei.f ?_
      | refine ⟨?_, ?_⟩
      | intro b
      | omega
      | (dsimp only; omega)
      | fail)
instance {L : List Assn} {l : List UInt8} : FnR Tryd.prog 25 [str l] L (fun kk => Vc (l.length ≤ 8) (kk (.int .u64 (leE l : Nat)) L)) := ⟨fun kk h => ⟨[], L, _, littleS_spec l h.l, .nil _, fun v L' hq => by rw [hq.1, hq.2]; exact h.r⟩⟩

theorem gt_part {l : List UInt8} {o n i : Nat} (hi : i < n) (h : o + n ≤ l.length) : gt ((l.drop o).take n) i = gt l (o + i) := by
  unfold gt
  simp only [List.getD_eq_getElem?_getD, List.getElem?_take, List.getElem?_drop]
  rw [if_pos hi]
theorem littleR_spec (e : TypeId) (b o n k : Nat) (l : List UInt8) (hn : n ≤ 8) (hl : o + n ≤ l.length) :
    Sat Tryd.prog 27 [.slice (some ⟨b, o, none⟩) n k] [row e b (l.map byteV)] (fun u L' => u = .int .u64 (leE ((l.drop o).take n) : Nat) ∧ L' = [row e b (l.map byteV)]) := by
  all_goals
    refine Sat.enter Tryd.func27 rfl Tryd.ntmps27 rfl (fun c R => ?_)
    try simp only [List.cons_append, List.nil_append]
    repeat' (first
      | (refine T.lpa 0 [(0, _), (5, _)] (0 : Nat) (fun i => [(2, .int .u64 (leE (((l.drop o).take n).take i) : Nat)), (6, .int .i64 (i : Nat))]) (fun _ => []) (fun i => i ≤ n) (fun i => n - i) (Nat.zero_le _) ?_; intro i g hI; have h64 := leE_lt64 (l := ((l.drop o).take n).take i) (by simp only [List.length_take, List.length_drop]; omega))
      | refine TQ.rda (i + 1) ?_ ?_ rfl ⟨(by have h5 := leE_step (l := (l.drop o).take n) (i := i) (by simp only [List.length_take, List.length_drop]; omega) (by simp only [List.length_take, List.length_drop]; omega); rw [gt_part hc hl] at h5; exact congrArg vU64 h5), rfl, rfl, rfl, trivial⟩
      | exact Fini.mk ⟨by (obtain rfl : i = n := by omega); rw [List.take_of_length_le (by simp only [List.length_take]; omega)]; rfl, rfl⟩
      | refine stp ?_
      | refine TQ.finC ?_
      | refine ⟨fun hc => ?_, fun hc => ?_⟩
      | refine Ei.f ?_
      | refine ⟨?_, ?_⟩
      | intro b
      | omega
      | (dsimp only; omega)
      | fail)

end Go.Proofs.YtcidilijlgaohaaDoor
