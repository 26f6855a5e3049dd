/- Lemmas for the proofs of this seat: no statement of the seat is claimed here. -/
import Derived.Test.YtmhkmcoobpfkcaaKo
set_option linter.all false

namespace Go.Proofs.Ytmhkmcoobpfkcaa
open Go Pw
set_option maxRecDepth 20000
set_option maxHeartbeats 4000000
set_option synthInstance.maxHeartbeats 400000
set_option synthInstance.maxSize 4000
set_option maxHeartbeats 8000000

def tilB (S : List PSet) (b : Nat) : Prop := ∀ x ∈ S, x.til ≤ b
theorem tilB.filter {S : List PSet} {b : Nat} (h : tilB S b) (q : PSet → Bool) : tilB (S.filter q) b := fun x hx => h x (List.mem_filter.1 hx).1
theorem put_til {S : List PSet} {k : Ky} {y : PSet} {b : Nat} (h : tilB S b) (hy : y.til ≤ b) : tilB (putS S k y) b := by
  unfold putS
  cases findS S k with
  | some _ =>
    intro x hx
    obtain ⟨z, hz, rfl⟩ := List.mem_map.1 hx
    split
    · exact hy
    · exact h z hz
  | none =>
    intro x hx
    rcases List.mem_append.1 hx with h1 | h1
    · exact h x h1
    · simp at h1; subst h1; exact hy
theorem fin_til {S : List PSet} {k : Ky} {x : PSet} {p : Pkt} {b : Nat} (h : tilB S b) (hx : x.til ≤ b) : tilB (finS S k x p).1 b := by
  unfold finS
  split
  · exact h.filter _
  · split
    · exact h.filter _
    · exact put_til h (by rw [addE_til]; exact hx)
theorem take_til {most life now b : Nat} {S : List PSet} {p : Pkt} (h : tilB S b) (hb : now + life ≤ b) : tilB (takeE most life S p now).1 b := by
  have hE : tilB (expE S now) b := h.filter _
  unfold takeE
  split
  · exact h
  · split
    · exact hE
    · split
      · exact hE.filter _
      · cases hf : findS (expE S now) (keyE p) with
        | some x => exact fin_til hE (hE x (find_mem hf).1)
        | none =>
          dsimp only
          split
          · exact hE
          · exact fin_til hE hb
theorem exp_nil {S : List PSet} {now : Nat} (h : tilB S now) : expE S now = [] := by
  unfold expE
  rw [List.filter_eq_nil_iff]
  intro x hx
  have := h x hx
  simp; omega
theorem own_x {most life now : Nat} {S : List PSet} (h : tilB S now) (hn : now < 4611686018427387904) : takeE most life S ⟨0, 0, 0, 0, 0, false, false, 0, [120]⟩ now = ([], ⟨0, 0, 0, 0, 0, false, false, 0, [120]⟩, true, 0) := by
  rw [tk_own (by omega) rfl rfl, exp_nil h]
theorem xok : Pkt.ok ⟨0, 0, 0, 0, 0, false, false, 0, [120]⟩ := ⟨by decide, by decide, by decide, by decide, by decide, by decide, by decide⟩
attribute [local irreducible] takeE
theorem few_spec (h : Array Obj) (l : List Stp) (a : Option Addr) (k : Nat) [hI : InpD h a (9 + 1) l.length k (l.flatMap stpV)] (hok : ∀ j, (gt l j).ok) (hl : l.length < 4611686018427387904) (most life : Nat) (hm : most < 256) (hlf : life < 65536) :
    Sat Try.prog 5 [.int .u8 most, .int .u16 life, .slice a l.length k] [old h] (fun u L' => u = .bool true ∧ L' = [old h]) := by
  all_goals
    refine Sat.enter Try.func5 rfl Try.ntmps5 rfl (fun c R => ?_)
    try simp only [List.cons_append, List.nil_append]
    repeat' (first
      | (refine T.atR 3 ?_; have hhv := b hc; clear b)
      | (refine T.atB 0 ?_; obtain ⟨r_, hr_⟩ : ∃ x, x = b := ⟨_, rfl⟩; subst hr_; refine T.lpa 0 [(1, _), (2, _), (7, _), (8, _)] ((0, [], 0) : Nat × List PSet × Nat) (fun z => [(10, .int .u64 (z.2.2 : Nat)), (11, .int .i64 (z.1 : Nat))]) (fun z => [pcA r_ (most % 8 + 1) (life + 1) z.2.1]) (fun z => z.1 ≤ l.length ∧ SsOk z.2.1 ∧ z.2.1.length ≤ most % 8 + 1 ∧ z.2.2 ≤ 15 * z.1 ∧ tilB z.2.1 (z.2.2 + (life + 1))) (fun z => l.length - z.1) ⟨Nat.zero_le _, ss0, Nat.zero_le _, Nat.zero_le _, fun x hx => (List.not_mem_nil hx).elim⟩ ?_; rintro ⟨i, S, now⟩ g ⟨hi, hS, hSl, hnow, htil⟩; dsimp only at hi hS hSl hnow htil ⊢; have hon := (hok i).now; have hpk := fun h : i < l.length => (hok i).p.ok (Nat.lt_of_le_of_lt (hhv.2 i h) (by decide)); have hgo : True := trivial; simp only [List.cons_append, List.nil_append, appR])
      | (refine T.atR 14 ?_; clear hgo; have hlen := take_len (most := most % 8 + 1) (life := life + 1) (now := now + (gt l i).now % 16) (S := S) (p := (gt l i).p); have hres := take_res (most := most % 8 + 1) (life := life + 1) (now := now + (gt l i).now % 16) hS (hpk (by assumption)); have hss := ss_take (most := most % 8 + 1) (life := life + 1) (now := now + (gt l i).now % 16) hS (hpk (by assumption)) (by omega); have htl := take_til (most := most % 8 + 1) (life := life + 1) (now := now + (gt l i).now % 16) (p := (gt l i).p) (b := now + (gt l i).now % 16 + (life + 1)) (S := S) (fun x hx => Nat.le_trans (htil x hx) (by omega)) (Nat.le_refl _); generalize takeE (most % 8 + 1) (life + 1) S (gt l i).p (now + (gt l i).now % 16) = T_ at *; obtain ⟨S', p', is_, e_⟩ := T_; dsimp only at hlen hres hss htl ⊢)
      | (refine TQ.atL ?_; refine TQ.rda ((i + 1, S', now + (gt l i).now % 16) : Nat × List PSet × Nat) ⟨by dsimp only; omega, hss, by dsimp only; omega, by dsimp only; omega, htl⟩ (by dsimp only; omega))
      | (refine T.atR 16 ?_; clear hgo; have hox := own_x (most := most % 8 + 1) (life := life + 1) (now := now + life + 1) (S := S) (fun x hx => Nat.le_trans (htil x hx) (by omega)) (by omega))
      | (exact Fini.of ⟨rfl, rfl⟩ (by repeat first | exact Imp.refl _ | (apply Imp.pull; focus ((repeat first | exact Del.head _ _ | apply Del.tail); done)) | apply Imp.drop))
      | exact ⟨hS, hpk (by assumption), by omega, by omega⟩
      | exact ⟨hS, xok, by omega, by omega⟩
      | (rw [hox]; dsimp only)
      | exact absurd (hres.2.1 (by assumption)).1 (by assumption)
      | (have h8 := (hres.2.1 (by assumption)).2.1; rw [h8] at hc; cases hc)
      | exact absurd (hres.2.1 (by assumption)).2.2 (by assumption)
      | exact absurd (hres.2.2 (by assumption)) (by assumption)
      | exact ⟨hok, rfl, hl⟩
      | (have h9 := ‹(!is_) = true›; rw [‹is_ = true›] at h9; cases h9)
      | refine And.intro (fun hc => ?_) (fun hc => ?_)
      | refine And.intro ?_ ?_
      | intro b
      | refine stp ?_
      | refine TQ.finC ?_
      | refine TQ.finC2 ?_
      | refine TQ.finC3 ?_
      | refine ⟨fun hc => ?_, fun hc => ?_⟩
      | refine Ei.f ?_
      | refine ⟨?_, ?_⟩
      | intro b
      | exact absurd rfl hc
      | exact absurd hc (by decide)
      | exact absurd rfl hc
      | exact absurd hc (by decide)
      | omega
      | (dsimp only; omega)
      | fail)

end Go.Proofs.Ytmhkmcoobpfkcaa

