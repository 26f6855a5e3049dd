/- Lemmas for the proofs of this seat: no statement of the seat is claimed here. -/
import Derived.Test.YtfgpnipnaaeafaaKl
set_option linter.all false

namespace Go.Proofs.Ytfgpnipnaaeafaa
open Go Pw
set_option maxRecDepth 20000
set_option maxHeartbeats 4000000
set_option synthInstance.maxHeartbeats 400000
set_option synthInstance.maxSize 4000
set_option maxHeartbeats 8000000

/-- What may says of a chain: N bytes of memory, c free descriptors. -/
structure MayP (l : List Bf) (N c e : Nat) : Prop where
  ok : e = 0 → 1 ≤ l.length ∧ l.length ≤ 8 ∧ (∀ b ∈ l, b.at_ + b.len ≤ N) ∧ l.length ≤ c
  le : e ≤ 20
  all : 1 ≤ l.length → l.length ≤ 8 → (∀ i, i < l.length → 0 < (gt l i).len ∧ (gt l i).at_ + (gt l i).len ≤ N) → (∀ i, i + 1 < l.length → (gt l i).inn = true → (gt l (i + 1)).inn = true) → e = if c < l.length then 6 else 0
theorem may_len {l : List Bf} {N c : Nat} (h : l.length < 1 ∨ 8 < l.length) : MayP l N c 2 := ⟨fun h => absurd h (by decide), by omega, fun h1 => by omega⟩
theorem may_bad {l : List Bf} {N c i : Nat} (hi : i < l.length) (h : (gt l i).len = 0 ∨ (0 < i ∧ (gt l (i - 1)).inn = true ∧ (!(gt l i).inn) = true)) : MayP l N c 2 := ⟨fun h => absurd h (by decide), by omega, fun h1 h2 h3 h4 => by
  have h5 := (h3 i hi).1
  rcases h with h | ⟨h, h6⟩
  · omega
  · have h7 := h4 (i - 1) (by omega) h6.1
    rw [show i - 1 + 1 = i by omega] at h7
    rw [h7] at h6
    exact absurd h6.2 (by decide)⟩
theorem may_out {l : List Bf} {N c i : Nat} (hi : i < l.length) (h : N < (gt l i).at_ + (gt l i).len) : MayP l N c 10 := ⟨fun h => absurd h (by decide), by omega, fun h1 h2 h3 => by
  have := (h3 i hi).2
  omega⟩
theorem may_full {l : List Bf} {N c : Nat} (h : c < l.length) : MayP l N c 6 := ⟨fun h => absurd h (by decide), by omega, fun h1 h2 h3 _ => by rw [if_pos h]⟩
theorem mem_gtB {l : List Bf} {b : Bf} (h : b ∈ l) : ∃ i, i < l.length ∧ b = gt l i := by
  obtain ⟨i, hi, rfl⟩ := List.mem_iff_getElem.1 h
  refine ⟨i, hi, ?_⟩
  have := gt_get hi
  rw [List.getElem?_eq_getElem hi] at this
  exact Option.some.inj this
theorem may_ok {l : List Bf} {N c : Nat} (h1 : 1 ≤ l.length) (h2 : l.length ≤ 8) (h3 : ∀ j, j < l.length → (gt l j).at_ + (gt l j).len ≤ N) (h4 : ¬ c < l.length) : MayP l N c 0 :=
  ⟨fun _ => ⟨h1, h2, fun b hb => by obtain ⟨i, hi, rfl⟩ := mem_gtB hb; exact h3 i hi, by omega⟩, by omega, fun h5 h6 h7 _ => by rw [if_neg h4]⟩
attribute [local irreducible] cntF
theorem may_spec (r p at_ n nx ls k tc : Nat) (vp : Value) (br : Bool) (a ta : Option Addr) (l : List Bf) (tk : List Bool) (bs : List UInt8) (lt : List Bool) (hok : ∀ b ∈ l, b.ok) (hn : l.length < 9223372036854775808) (hbs : bs.length ≤ 1048576) (ht : tk.length ≤ 256) :
    Sat Try.prog 48 [.pointer (some ⟨r, 0, none⟩), .slice a l.length k] [row 84 r [.pointer (some ⟨p, 0, none⟩), .int .u32 at_, .int .i64 n, vp, .slice ta tk.length tc, .int .u16 nx, .int .u16 ls, .bool br], memA p bs lt, Pw.sl 4 (0 + 1) (.slice ta tk.length tc) tk.length (tk.map Value.bool), Pw.sl 90 (2 + 1) (.slice a l.length k) l.length (l.flatMap bufV)] (fun u L' => ∃ e, MayP l bs.length (cntF tk tk.length) e ∧ u = .int .i64 (e : Nat) ∧ L' = [row 84 r [.pointer (some ⟨p, 0, none⟩), .int .u32 at_, .int .i64 n, vp, .slice ta tk.length tc, .int .u16 nx, .int .u16 ls, .bool br], memA p bs lt, Pw.sl 4 (0 + 1) (.slice ta tk.length tc) tk.length (tk.map Value.bool), Pw.sl 90 (2 + 1) (.slice a l.length k) l.length (l.flatMap bufV)]) := by
  all_goals
    refine Sat.enter Try.func48 rfl Try.ntmps48 rfl (fun c R => ?_)
    try simp only [List.cons_append, List.nil_append]
    repeat' (first
      | (refine T.atB 0 ?_; refine T.lpa 0 [(0, _), (1, _), (17, _), (18, _)] (0 : Nat) (fun i => [(19, .int .i64 (i : Nat))]) (fun _ => []) (fun i => i ≤ l.length) (fun i => l.length - i) (Nat.zero_le _) ?_; rintro i g hi; simp only [List.cons_append, List.nil_append, appR])
      | (refine T.atB 2 ?_; refine T.lpa 2 [(0, _), (1, _), (45, _), (46, _)] (0 : Nat) (fun i => [(47, .int .i64 (i : Nat))]) (fun _ => []) (fun i => i ≤ l.length ∧ ∀ j, j < i → (gt l j).at_ + (gt l j).len ≤ bs.length) (fun i => l.length - i) ⟨Nat.zero_le _, fun j hj => absurd hj (Nat.not_lt_zero j)⟩ ?_; rintro i g ⟨hi, hall⟩; have hb1 := fun h : i < l.length => (gt_all' hok h).at_; have hb2 := fun h : i < l.length => (gt_all' hok h).len; simp only [List.cons_append, List.nil_append, appR])
      | (refine TQ.atL ?_; refine TQ.rd (i + 1 : Nat) rfl ⟨rfl, rfl, rfl, rfl, rfl, trivial⟩ (by first | omega | fail) (by omega) (Ent.imp (by repeat first | exact Imp.refl _ | (apply Imp.pull; focus ((repeat first | exact Del.head _ _ | apply Del.tail); done)) | apply Imp.drop)))
      | (refine TQ.atL ?_; refine TQ.rd (i + 1 : Nat) rfl ⟨rfl, rfl, rfl, rfl, rfl, trivial⟩ ⟨by omega, fun j h => (by rcases Nat.lt_or_eq_of_le (Nat.le_of_lt_succ h) with h | h; exact hall j h; subst h; omega)⟩ (by omega) (Ent.imp (by repeat first | exact Imp.refl _ | (apply Imp.pull; focus ((repeat first | exact Del.head _ _ | apply Del.tail); done)) | apply Imp.drop)))
      | (refine finAt ?_; exact Fini.of ⟨_, may_len (.inl (by assumption)), rfl, rfl⟩ (by repeat first | exact Imp.refl _ | (apply Imp.pull; focus ((repeat first | exact Del.head _ _ | apply Del.tail); done)) | apply Imp.drop))
      | (refine finAt ?_; exact Fini.of ⟨_, may_len (.inr (by assumption)), rfl, rfl⟩ (by repeat first | exact Imp.refl _ | (apply Imp.pull; focus ((repeat first | exact Del.head _ _ | apply Del.tail); done)) | apply Imp.drop))
      | (refine finAt ?_; exact Fini.of ⟨_, may_len (by omega), rfl, rfl⟩ (by repeat first | exact Imp.refl _ | (apply Imp.pull; focus ((repeat first | exact Del.head _ _ | apply Del.tail); done)) | apply Imp.drop))
      | (refine finAt ?_; exact Fini.of ⟨_, may_bad (by assumption) (by first | exact .inl (by assumption) | exact .inr ⟨by assumption, by assumption, by assumption⟩), rfl, rfl⟩ (by repeat first | exact Imp.refl _ | (apply Imp.pull; focus ((repeat first | exact Del.head _ _ | apply Del.tail); done)) | apply Imp.drop))
      | (refine finAt ?_; exact Fini.of ⟨_, may_out (by assumption) (by omega), rfl, rfl⟩ (by repeat first | exact Imp.refl _ | (apply Imp.pull; focus ((repeat first | exact Del.head _ _ | apply Del.tail); done)) | apply Imp.drop))
      | (refine finAt ?_; exact Fini.of ⟨_, may_full (by assumption), rfl, rfl⟩ (by repeat first | exact Imp.refl _ | (apply Imp.pull; focus ((repeat first | exact Del.head _ _ | apply Del.tail); done)) | apply Imp.drop))
      | (refine finAt ?_; exact Fini.of ⟨_, may_full (by omega), rfl, rfl⟩ (by repeat first | exact Imp.refl _ | (apply Imp.pull; focus ((repeat first | exact Del.head _ _ | apply Del.tail); done)) | apply Imp.drop))
      | (refine finAt ?_; exact Fini.of ⟨_, may_ok (by omega) (by omega) (by obtain rfl : i = l.length := (by omega); exact hall) (by omega), rfl, rfl⟩ (by repeat first | exact Imp.refl _ | (apply Imp.pull; focus ((repeat first | exact Del.head _ _ | apply Del.tail); done)) | apply Imp.drop))
      | refine T.pk 12 [11] (.p 7 (.p 8 (.d 9 (.g 10 (.p 0 (.g 1 (.p 2 (.p 3 (.g 4 (.p 5 (.p 6 (.n 11 (.p 12 (.p 13 .fin)))))))))))))) ?_
      | refine And.intro (fun hc => ?_) (fun hc => ?_)
      | refine And.intro ?_ ?_
      | intro b
      | refine stk ?_
      | refine stp ?_
      | refine TQ.finC ?_
      | refine TQ.finC2 ?_
      | refine TQ.finC3 ?_
      | refine ⟨fun hc => ?_, fun hc => ?_⟩
      | refine Ei.f ?_
      | refine ⟨?_, ?_⟩
      | intro b
      | exact absurd rfl hc
      | exact absurd hc (by decide)
      | omega
      | (dsimp only; omega)
      | fail)

end Go.Proofs.Ytfgpnipnaaeafaa

