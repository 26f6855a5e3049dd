/- Lemmas for the proofs of this seat: no statement of the seat is claimed here. -/
import Derived.Test.YtcidilijlgaohaaDoorA7
set_option linter.all false
namespace Go.Proofs.YtcidilijlgaohaaDoor
open Go Pw
set_option maxRecDepth 20000
set_option maxHeartbeats 4000000
set_option maxHeartbeats 200000
instance {L : List Assn} {R : List Assn} {key nonce : List UInt8} {y : Int} {n : Nat} [hy : Nn y n] [hd : DelC quA L R] : FnR Tryd.prog 22 [str key, str nonce, .int .u32 y] L (fun q => Vc (key.length = 32 ∧ nonce.length = 12 ∧ n < 4294967296) (q (.agg ((blockE key nonce n).map byteV).toArray) (quA :: R))) := ⟨fun q h => ⟨_, R, _, by rw [hy.h]; exact block_spec key nonce n h.l.1 h.l.2.1 h.l.2.2, Pick.of1 hd.h, fun v L' hq => by rw [hq.1, hq.2]; exact h.r⟩⟩

/-- A block, or that it may not be. -/
def BlockE (key nonce : List UInt8) (n : Nat) : List UInt8 × Nat := if key.length = 32 ∧ nonce.length = 12 then (blockE key nonce n, 0) else ([], 2)
theorem mayF {p : Prop} [Decidable p] (h : (!decide p) = true) : ¬ p := by intro hp; simp [hp] at h
theorem mayT {p : Prop} [Decidable p] (h : (!decide p) = false) : p := by
  by_cases hp : p
  · exact hp
  · simp [hp] at h
theorem Block_spec (key nonce : List UInt8) (n : Nat) (hn : n < 4294967296) :
    Sat Tryd.prog 11 [str key, str nonce, .int .u32 n] [quA] (fun u L' => u = asResult [str (BlockE key nonce n).1, .int .i64 (BlockE key nonce n).2] ∧ L' = [quA]) := by
  all_goals
    refine Sat.enter Tryd.func11 rfl Tryd.ntmps11 rfl (fun c R => ?_)
    try simp only [List.cons_append, List.nil_append]
    repeat' (first
      | exact Fini.mk ⟨by rw [BlockE, if_neg hc]; rfl, rfl⟩
      | exact Fini.mk ⟨by rw [BlockE, if_pos (Decidable.not_not.1 hc), List.drop_zero, List.take_of_length_le (by rw [blockE_len]; omega)]; rfl, rfl⟩
      | refine Vc.mk ⟨(Decidable.not_not.1 hc).1, (Decidable.not_not.1 hc).2, hn⟩ ?_
      | (first | (simp only [List.length_map, blockE_len, List.length_replicate]; done) | (simp only [List.length_map, blockE_len, List.length_replicate]; omega))
      | refine And.intro (fun hc => ?_) (fun hc => ?_)
      | refine And.intro ?_ ?_
      | intro b
      | refine stp ?_
      | refine TQ.finC ?_
      | refine ⟨fun hc => ?_, fun hc => ?_⟩
      | refine Ei.f ?_
      | refine ⟨?_, ?_⟩
      | intro b
      | omega
      | (dsimp only; omega)
      | fail)
theorem word_spec (p i : Nat) (key : List UInt8) (hk : key.length = 32) (hi : i < 4) :
    Sat Tryd.prog 24 [.int .i64 i, .pointer (some ⟨p, 0, none⟩)] [row 9 p [str key]] (fun u L' => u = .int .u64 (leE ((key.drop (8 * i)).take 8) : Nat) ∧ L' = [row 9 p [str key]]) := by
  all_goals
    refine Sat.enter Tryd.func24 rfl Tryd.ntmps24 rfl (fun c R => ?_)
    try simp only [List.cons_append, List.nil_append]
    repeat' (first
      | (refine Vc.mk (by simp only [List.length_drop, List.length_take]; omega) ?_)
      | (exact Fini.mk ⟨by rw [List.drop_take, show 8 * i + 8 - 8 * i = 8 by omega]; rfl, rfl⟩)
      | refine And.intro (fun hc => ?_) (fun hc => ?_)
      | refine And.intro ?_ ?_
      | intro b
      | refine stp ?_
      | refine TQ.finC ?_
      | refine ⟨fun hc => ?_, fun hc => ?_⟩
      | refine Ei.f ?_
      | refine ⟨?_, ?_⟩
      | intro b
      | omega
      | (dsimp only; omega)
      | fail)

def xorE (a b : List UInt8) : Nat → Nat
  | 0 => 0
  | i + 1 => xorE a b i ||| ((gt a i).toNat ^^^ (gt b i).toNat)
theorem xorE_lt (a b : List UInt8) : ∀ i, xorE a b i < 256
  | 0 => Nat.zero_lt_succ _
  | i + 1 => Nat.or_lt_two_pow (n := 8) (xorE_lt a b i) (Nat.xor_lt_two_pow (n := 8) (UInt8.toNat_lt _) (UInt8.toNat_lt _))
theorem or_z {x y : Nat} : x ||| y = 0 ↔ x = 0 ∧ y = 0 := by
  constructor
  · intro h
    exact ⟨Nat.eq_of_testBit_eq fun i => by have := congrArg (Nat.testBit · i) h; simp at this; simp [this.1], Nat.eq_of_testBit_eq fun i => by have := congrArg (Nat.testBit · i) h; simp at this; simp [this.2]⟩
  · rintro ⟨rfl, rfl⟩; rfl
theorem xor_z {x y : Nat} : x ^^^ y = 0 ↔ x = y := by
  constructor
  · intro h
    exact Nat.eq_of_testBit_eq fun i => by have := congrArg (Nat.testBit · i) h; simp at this; exact this
  · rintro rfl; exact Nat.xor_self _
theorem xorE_z {a b : List UInt8} : ∀ i, xorE a b i = 0 ↔ ∀ j < i, gt a j = gt b j
  | 0 => by simp [xorE]
  | i + 1 => by
    rw [xorE, or_z, xor_z, xorE_z i]
    constructor
    · rintro ⟨h1, h2⟩ j hj
      by_cases e : j = i
      · subst e; exact UInt8.toNat_inj.1 h2
      · exact h1 j (by omega)
    · intro h
      exact ⟨fun j hj => h j (by omega), by rw [h i (by omega)]⟩
theorem gt_ext {a b : List UInt8} (h : a.length = b.length) : (∀ j < a.length, gt a j = gt b j) ↔ a = b := by
  constructor
  · intro hh
    apply List.ext_getElem h
    intro i h1 h2
    have := hh i h1
    unfold gt at this
    simpa [List.getD_eq_getElem?_getD, h1, h2] using this
  · rintro rfl _ _; rfl
theorem Same_spec (a b : List UInt8) (ha : a.length < 4294967296) :
    Sat Tryd.prog 15 [str a, str b] [] (fun u L' => u = .bool (decide (a = b)) ∧ L' = []) := by
  all_goals
    refine Sat.enter Tryd.func15 rfl Tryd.ntmps15 rfl (fun c R => ?_)
    try simp only [List.cons_append, List.nil_append]
    repeat' (first
      | (refine T.atB 0 ?_; refine T.lpa 0 [(0, _), (1, _), (13, _)] (0 : Nat) (fun i => [(5, .int .u8 (xorE a b i : Nat)), (14, .int .i64 (i : Nat))]) (fun _ => []) (fun i => i ≤ a.length) (fun i => a.length - i) (Nat.zero_le _) ?_; intro i g hI; have hx8 := xorE_lt a b i; have hy8 : (gt a i).toNat ^^^ (gt b i).toNat < 256 := Nat.xor_lt_two_pow (n := 8) (UInt8.toNat_lt _) (UInt8.toNat_lt _); simp only [List.cons_append, List.nil_append, appR])
      | refine TQ.rda (i + 1) ?_ ?_ rfl ⟨rfl, rfl, rfl, rfl, rfl, trivial⟩
      | (have hl : a.length = b.length := Decidable.not_not.1 ‹¬ a.length ≠ b.length›; obtain rfl : i = a.length := (by omega); exact Fini.mk ⟨congrArg Value.bool (decide_eq_decide.2 ((xorE_z _).trans (gt_ext hl))), rfl⟩)
      | exact Fini.mk ⟨by simp [asResult]; intro e; subst e; exact absurd rfl ‹_›, rfl⟩
      | refine T.pl 7 [] (.p 0 (.p 1 (.p 2 (.p 3 (.p 4 (.p 5 (.p 6 (.p 7 (.p 8 (.p 9 .fin)))))))))) ?_
      | refine And.intro (fun hc => ?_) (fun hc => ?_)
      | refine And.intro ?_ ?_
      | intro b
      | refine stp ?_
      | refine TQ.finC ?_
      | refine ⟨fun hc => ?_, fun hc => ?_⟩
      | refine Ei.f ?_
      | refine ⟨?_, ?_⟩
      | intro b
      | omega
      | (dsimp only; omega)
      | fail)

end Go.Proofs.YtcidilijlgaohaaDoor
