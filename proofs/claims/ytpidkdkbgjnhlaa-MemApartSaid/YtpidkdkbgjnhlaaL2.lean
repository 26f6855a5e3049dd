/- Lemmas for the proofs of this seat: no statement of the seat is claimed here. -/
import Derived.Test.YtpidkdkbgjnhlaaL1
set_option linter.all false
namespace Go.Proofs.Ytpidkdkbgjnhlaa

/-! Spans that are in order, none next to another one; which bytes they have. -/
def Canon : Nat → Nat → List Spn → Prop
  | _, _, [] => True
  | lo, n, x :: t => lo ≤ x.1 ∧ 0 < x.2 ∧ x.1 + x.2 ≤ n ∧ Canon (x.1 + x.2 + 1) n t
def inS (ss : List Spn) (k : Nat) : Prop := ∃ s ∈ ss, s.1 ≤ k ∧ k < s.1 + s.2
instance (ss : List Spn) (k : Nat) : Decidable (inS ss k) := by unfold inS; infer_instance
theorem inS_nil (k : Nat) : ¬ inS [] k := fun ⟨s, h, _⟩ => by cases h
theorem inS_cons (x : Spn) (t : List Spn) (k : Nat) : inS (x :: t) k ↔ (x.1 ≤ k ∧ k < x.1 + x.2) ∨ inS t k := by
  unfold inS; simp
theorem inS_append (a b : List Spn) (k : Nat) : inS (a ++ b) k ↔ inS a k ∨ inS b k := by
  unfold inS; simp [or_and_right, exists_or]
theorem Canon.weak {lo lo' n : Nat} (h : lo' ≤ lo) : ∀ {ss : List Spn}, Canon lo n ss → Canon lo' n ss
  | [], _ => trivial
  | _ :: _, ⟨h1, h2, h3, h4⟩ => ⟨by omega, h2, h3, h4⟩
theorem Canon.ge {n : Nat} : ∀ {lo : Nat} {ss : List Spn}, Canon lo n ss → ∀ s ∈ ss, lo ≤ s.1 ∧ 0 < s.2 ∧ s.1 + s.2 ≤ n
  | _, [], _, _, h => by cases h
  | _, x :: t, ⟨h1, h2, h3, h4⟩, s, hs => by
    rcases List.mem_cons.1 hs with rfl | hs
    · exact ⟨h1, h2, h3⟩
    · have := h4.ge s hs; omega
theorem Canon.inS_ge {lo n : Nat} {ss : List Spn} (h : Canon lo n ss) {k : Nat} (hk : inS ss k) : lo ≤ k ∧ k < n := by
  obtain ⟨s, hs, h1, h2⟩ := hk
  have := h.ge s hs; omega
theorem Canon.len {n : Nat} : ∀ {lo : Nat} {ss : List Spn}, Canon lo n ss → lo ≤ n + 1 → ss.length + lo ≤ n + 1
  | _, [], _, h => by simpa using h
  | lo, x :: t, ⟨h1, h2, h3, h4⟩, _ => by
    have := h4.len (by omega); simp only [List.length_cons]; omega
theorem Canon.sort {n : Nat} : ∀ {lo : Nat} {ss : List Spn}, Canon lo n ss → ∀ (m h : Nat) (x y : Spn), m ≤ h → ss[m]? = some x → ss[h]? = some y → x.1 ≤ y.1
  | _, [], _, _, _, _, _, _, hx, _ => by simp at hx
  | _, z :: t, ⟨h1, h2, h3, h4⟩, 0, 0, x, y, _, hx, hy => by simp at hx hy; subst hx; subst hy; exact Nat.le_refl _
  | _, z :: t, ⟨h1, h2, h3, h4⟩, 0, h + 1, x, y, _, hx, hy => by
    simp at hx hy; subst hx
    have := h4.ge y (List.mem_of_getElem? hy); omega
  | _, z :: t, ⟨h1, h2, h3, h4⟩, m + 1, h + 1, x, y, hm, hx, hy => h4.sort m h x y (by omega) (by simpa using hx) (by simpa using hy)
/-- Two such lists with the same bytes are one. -/
theorem Canon.uniq {n : Nat} : ∀ {lo : Nat} {ss tt : List Spn}, Canon lo n ss → Canon lo n tt → (∀ k, inS ss k ↔ inS tt k) → ss = tt
  | _, [], [], _, _, _ => rfl
  | _, [], y :: t, _, ⟨h1, h2, h3, h4⟩, he => absurd ((he y.1).2 ((inS_cons ..).2 (.inl ⟨Nat.le_refl _, by omega⟩))) (inS_nil _)
  | _, x :: s, [], ⟨h1, h2, h3, h4⟩, _, he => absurd ((he x.1).1 ((inS_cons ..).2 (.inl ⟨Nat.le_refl _, by omega⟩))) (inS_nil _)
  | lo, x :: s, y :: t, ⟨a1, a2, a3, a4⟩, ⟨b1, b2, b3, b4⟩, he => by
    have e1 : ∀ k, inS s k → x.1 + x.2 + 1 ≤ k := fun k hk => (a4.inS_ge hk).1
    have e2 : ∀ k, inS t k → y.1 + y.2 + 1 ≤ k := fun k hk => (b4.inS_ge hk).1
    have he' : ∀ k, ((x.1 ≤ k ∧ k < x.1 + x.2) ∨ inS s k) ↔ ((y.1 ≤ k ∧ k < y.1 + y.2) ∨ inS t k) := fun k => by
      have := he k; rwa [inS_cons, inS_cons] at this
    have hx1 : x.1 = y.1 := by
      have p := (he' x.1).1 (.inl ⟨Nat.le_refl _, by omega⟩)
      have q := (he' y.1).2 (.inl ⟨Nat.le_refl _, by omega⟩)
      rcases p with p | p <;> rcases q with q | q
      · omega
      · have := e1 _ q; omega
      · have := e2 _ p; omega
      · have := e1 _ q; have := e2 _ p; omega
    have hx2 : x.2 = y.2 := by
      rcases Nat.lt_trichotomy x.2 y.2 with h | h | h
      · have p := (he' (x.1 + x.2)).2 (.inl ⟨by omega, by omega⟩)
        rcases p with p | p
        · omega
        · have := e1 _ p; omega
      · exact h
      · have p := (he' (y.1 + y.2)).1 (.inl ⟨by omega, by omega⟩)
        rcases p with p | p
        · omega
        · have := e2 _ p; omega
    have hxy : x = y := Prod.ext hx1 hx2
    subst hxy
    congr 1
    refine a4.uniq b4 fun k => ?_
    have h := he' k
    constructor
    · intro hk
      rcases h.1 (.inr hk) with p | p
      · have := e1 _ hk; omega
      · exact p
    · intro hk
      rcases h.2 (.inr hk) with p | p
      · have := e2 _ hk; omega
      · exact p
end Go.Proofs.Ytpidkdkbgjnhlaa
