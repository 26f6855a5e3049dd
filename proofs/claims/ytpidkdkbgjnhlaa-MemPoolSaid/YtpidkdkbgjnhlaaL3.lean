/- Lemmas for the proofs of this seat: no statement of the seat is claimed here. -/
import Derived.Test.YtpidkdkbgjnhlaaL2
set_option linter.all false
namespace Go.Proofs.Ytpidkdkbgjnhlaa

/-! How many of so many places have a mark. -/
def cnt (p : Nat → Prop) [DecidablePred p] (a : Nat) : Nat → Nat
  | 0 => 0
  | l + 1 => cnt p a l + if p (a + l) then 1 else 0
theorem cnt_le (p : Nat → Prop) [DecidablePred p] (a : Nat) : ∀ l, cnt p a l ≤ l
  | 0 => Nat.le_refl _
  | l + 1 => by have := cnt_le p a l; simp only [cnt]; split <;> omega
theorem cnt_or (p q r : Nat → Prop) [DecidablePred p] [DecidablePred q] [DecidablePred r] (hr : ∀ k, r k ↔ p k ∨ q k) (hd : ∀ k, ¬ (p k ∧ q k)) (a : Nat) : ∀ l, cnt r a l = cnt p a l + cnt q a l
  | 0 => rfl
  | l + 1 => by
    have h := cnt_or p q r hr hd a l
    have h1 := hr (a + l); have h2 := hd (a + l)
    simp only [cnt, h]
    by_cases hp : p (a + l) <;> by_cases hq : q (a + l) <;> simp [hp, hq, h1] <;> first | omega | exact absurd ⟨hp, hq⟩ h2
theorem cnt_int (u v a : Nat) : ∀ l, cnt (fun k => u ≤ k ∧ k < u + v) a l = ovl a l (u, v)
  | 0 => by simp only [cnt, ovl]; omega
  | l + 1 => by
    have h := cnt_int u v a l
    simp only [cnt, h, ovl]
    split <;> omega
theorem cnt_zero (p : Nat → Prop) [DecidablePred p] (hp : ∀ k, ¬ p k) (a : Nat) : ∀ l, cnt p a l = 0
  | 0 => rfl
  | l + 1 => by simp [cnt, cnt_zero p hp a l, hp]
theorem cnt_none (p : Nat → Prop) [DecidablePred p] (a : Nat) : ∀ l, cnt p a l = 0 ↔ ∀ k, a ≤ k → k < a + l → ¬ p k
  | 0 => by simp only [cnt, true_iff]; intro k h1 h2; omega
  | l + 1 => by
    have h := cnt_none p a l
    simp only [cnt]
    constructor
    · intro h0 k h1 h2
      by_cases hk : k = a + l
      · subst hk; intro hp; simp [hp] at h0
      · exact h.1 (by omega) k h1 (by omega)
    · intro h0
      have h1 := h.2 fun k h1 h2 => h0 k h1 (by omega)
      have h2 := h0 (a + l) (by omega) (by omega)
      simp [h1, h2]
theorem cnt_all (p : Nat → Prop) [DecidablePred p] (a : Nat) : ∀ l, l ≤ cnt p a l ↔ ∀ k, a ≤ k → k < a + l → p k
  | 0 => by simp only [Nat.zero_le, true_iff]; intro k h1 h2; omega
  | l + 1 => by
    have h := cnt_all p a l
    have hle := cnt_le p a l
    simp only [cnt]
    constructor
    · intro h0 k h1 h2
      by_cases hk : k = a + l
      · subst hk
        by_cases hp : p (a + l)
        · exact hp
        · simp [hp] at h0; omega
      · refine h.1 ?_ k h1 (by omega)
        split at h0 <;> omega
    · intro h0
      have h1 := h.2 fun k h1 h2 => h0 k h1 (by omega)
      have h2 := h0 (a + l) (by omega) (by omega)
      simp [h2]; omega
theorem shared_cnt {n : Nat} : ∀ {lo : Nat} {ss : List Spn}, Canon lo n ss → ∀ a l, sharedN ss a l = cnt (inS ss) a l
  | _, [], _, a, l => by rw [cnt_zero _ inS_nil]; rfl
  | lo, x :: t, ⟨h1, h2, h3, h4⟩, a, l => by
    rw [cnt_or (fun k => x.1 ≤ k ∧ k < x.1 + x.2) (inS t) (inS (x :: t)) (fun k => inS_cons x t k) (fun k hk => by have := (h4.inS_ge hk.2).1; omega) a l, cnt_int, ← shared_cnt h4]
    simp [sharedN]
theorem shared_none {lo n : Nat} {ss : List Spn} (h : Canon lo n ss) (a l : Nat) : sharedN ss a l = 0 ↔ ∀ k, a ≤ k → k < a + l → ¬ inS ss k := by
  rw [shared_cnt h]; exact cnt_none _ a l
theorem shared_all {lo n : Nat} {ss : List Spn} (h : Canon lo n ss) (a l : Nat) : l ≤ sharedN ss a l ↔ ∀ k, a ≤ k → k < a + l → inS ss k := by
  rw [shared_cnt h]; exact cnt_all _ a l
/-! Lists of spans, put together. -/
def endC : Nat → List Spn → Nat
  | lo, [] => lo
  | _, x :: t => endC (x.1 + x.2 + 1) t
theorem endC_snoc (lo : Nat) (q : List Spn) (x : Spn) : endC lo (q ++ [x]) = x.1 + x.2 + 1 := by
  induction q generalizing lo with
  | nil => rfl
  | cons y t ih => exact ih _
theorem Canon.app {n : Nat} : ∀ {lo : Nat} {q r : List Spn}, Canon lo n (q ++ r) ↔ Canon lo n q ∧ Canon (endC lo q) n r
  | lo, [], r => by simp [Canon, endC]
  | lo, x :: t, r => by
    simp only [List.cons_append, Canon, endC]
    rw [Canon.app]
    constructor
    · rintro ⟨a, b, c, d, e⟩; exact ⟨⟨a, b, c, d⟩, e⟩
    · rintro ⟨⟨a, b, c, d⟩, e⟩; exact ⟨a, b, c, d, e⟩
theorem Canon.wide {n n' : Nat} (h : n ≤ n') : ∀ {lo : Nat} {ss : List Spn}, Canon lo n ss → Canon lo n' ss
  | _, [], _ => trivial
  | _, _ :: _, ⟨h1, h2, h3, h4⟩ => ⟨h1, h2, by omega, h4.wide h⟩
theorem merge_n {n a l : Nat} {post : List Spn} {lo : Nat} (h : Canon lo n post) (hp : ∀ s ∈ post, a + l ≤ s.1) (hl : 0 < l) (han : a + l ≤ n) (lo' : Nat) (hlo : lo' ≤ a) :
    Canon lo' n ((a, (mergeN a l post).1) :: (mergeN a l post).2) ∧ ∀ k, inS ((a, (mergeN a l post).1) :: (mergeN a l post).2) k ↔ (a ≤ k ∧ k < a + l) ∨ inS post k := by
  cases post with
  | nil => exact ⟨⟨hlo, hl, han, trivial⟩, fun k => by rw [inS_cons]; rfl⟩
  | cons x t =>
    obtain ⟨h1, h2, h3, h4⟩ := h
    have hx := hp x (by simp)
    simp only [mergeN]
    by_cases hc : a + l = x.1
    · simp only [hc, if_true]
      refine ⟨⟨hlo, by omega, by omega, h4.weak (by omega)⟩, fun k => ?_⟩
      rw [inS_cons, inS_cons]
      constructor
      · rintro (hk | hk)
        · by_cases hk2 : k < x.1
          · exact .inl ⟨hk.1, hk2⟩
          · exact .inr (.inl ⟨by omega, by omega⟩)
        · exact .inr (.inr hk)
      · rintro (hk | hk | hk)
        · exact .inl ⟨hk.1, by omega⟩
        · exact .inl ⟨by omega, by omega⟩
        · exact .inr hk
    · simp only [hc, if_false]
      exact ⟨⟨hlo, hl, han, by omega, h2, h3, h4⟩, fun k => by rw [inS_cons]⟩
theorem lend_plain {n a l : Nat} {ss pre post : List Spn} (h : Canon 0 n ss) (he : ss = pre ++ post) (h1 : ∀ s ∈ pre, s.1 < a) (h2 : ∀ s ∈ post, a ≤ s.1) (hl : 0 < l) (han : a + l ≤ n) (hs : sharedN ss a l = 0) :
    Canon 0 n (mergeP pre a (mergeN a l post).1 (mergeN a l post).2) ∧ ∀ k, inS (mergeP pre a (mergeN a l post).1 (mergeN a l post).2) k ↔ (a ≤ k ∧ k < a + l) ∨ inS ss k := by
  have hn := (shared_none h a l).1 hs
  subst he
  have hpre : ∀ s ∈ pre, s.1 + s.2 ≤ a := fun s hm => by
    have hg := h.ge s (List.mem_append_left _ hm)
    have := h1 s hm
    rcases Nat.lt_or_ge a (s.1 + s.2) with hc | hc
    · exact absurd ⟨s, List.mem_append_left _ hm, by omega, hc⟩ (hn a (Nat.le_refl _) (by omega))
    · exact hc
  have hpost : ∀ s ∈ post, a + l ≤ s.1 := fun s hm => by
    have hg := h.ge s (List.mem_append_right _ hm)
    have := h2 s hm
    rcases Nat.lt_or_ge s.1 (a + l) with hc | hc
    · exact absurd ⟨s, List.mem_append_right _ hm, Nat.le_refl _, by omega⟩ (hn s.1 this hc)
    · exact hc
  obtain ⟨c1, c2⟩ := Canon.app.1 h
  rcases List.eq_nil_or_concat pre with rfl | ⟨q, x, rfl⟩
  · have := merge_n c2 hpost hl han 0 (Nat.zero_le _)
    simpa [mergeP] using this
  · rw [List.concat_eq_append] at *
    have hx := hpre x (by simp)
    rw [endC_snoc] at c2
    obtain ⟨d1, d2⟩ := Canon.app.1 c1
    obtain ⟨d3, d4, d5, _⟩ := d2
    rw [mergeP_snoc]
    by_cases hc : x.1 + x.2 = a
    · rw [if_pos hc]
      obtain ⟨m1, m2⟩ := merge_n c2 hpost hl han a (Nat.le_refl _)
      obtain ⟨_, m3, m4, m5⟩ := m1
      dsimp only at m3 m4 m5
      refine ⟨Canon.app.2 ⟨d1, d3, by dsimp only; omega, by dsimp only; omega, m5.weak (by dsimp only; omega)⟩, fun k => ?_⟩
      have hm := m2 k
      rw [inS_cons] at hm
      rw [inS_append, inS_cons, inS_append, inS_append, inS_cons]
      dsimp only at hm ⊢
      have e : (x.1 ≤ k ∧ k < x.1 + (x.2 + (mergeN a l post).1)) ↔ (x.1 ≤ k ∧ k < x.1 + x.2) ∨ (a ≤ k ∧ k < a + (mergeN a l post).1) := by omega
      rw [e, or_assoc, hm]
      have := inS_nil k
      constructor
      · rintro (h | h | h | h)
        · exact .inr (.inl (.inl h))
        · exact .inr (.inl (.inr (.inl h)))
        · exact .inl h
        · exact .inr (.inr h)
      · rintro (h | (h | h | h) | h)
        · exact .inr (.inr (.inl h))
        · exact .inl h
        · exact .inr (.inl h)
        · exact absurd h this
        · exact .inr (.inr (.inr h))
    · rw [if_neg hc]
      obtain ⟨m1, m2⟩ := merge_n c2 hpost hl han (x.1 + x.2 + 1) (by omega)
      refine ⟨Canon.app.2 ⟨c1, by rw [endC_snoc]; exact m1⟩, fun k => ?_⟩
      rw [inS_append (q ++ [x]), m2 k, inS_append (q ++ [x]) post]
      constructor
      · rintro (h | h | h)
        · exact .inr (.inl h)
        · exact .inl h
        · exact .inr (.inr h)
      · rintro (h | h | h)
        · exact .inr (.inl h)
        · exact .inl h
        · exact .inr (.inr h)
theorem Canon.gap {n : Nat} : ∀ {lo : Nat} {ss : List Spn}, Canon lo n ss → ∀ s ∈ ss, ¬ inS ss (s.1 + s.2)
  | _, [], _, _, h => by cases h
  | lo, x :: t, ⟨h1, h2, h3, h4⟩, s, hs => by
    rw [inS_cons]
    rcases List.mem_cons.1 hs with rfl | hs
    · rintro (h | h)
      · omega
      · have := (h4.inS_ge h).1; omega
    · rintro (h | h)
      · have := h4.ge s hs; omega
      · exact h4.gap s hs h
theorem Canon.one {n a l : Nat} {lo : Nat} {ss : List Spn} (h : Canon lo n ss) (hl : 0 < l) (ha : ∀ k, a ≤ k → k < a + l → inS ss k) : ∃ s ∈ ss, s.1 ≤ a ∧ a + l ≤ s.1 + s.2 := by
  obtain ⟨s, hs, h1, h2⟩ := ha a (Nat.le_refl _) (by omega)
  refine ⟨s, hs, h1, ?_⟩
  rcases Nat.lt_or_ge (s.1 + s.2) (a + l) with hc | hc
  · exact absurd (ha (s.1 + s.2) (by omega) hc) (h.gap s hs)
  · exact hc
theorem backL_above {a l : Nat} : ∀ {ss : List Spn}, (∀ s ∈ ss, a < s.1) → backL a l ss = ss
  | [], _ => rfl
  | x :: t, h => by
    have hx := h x (by simp)
    have ht := backL_above (a := a) (l := l) (ss := t) fun s hs => h s (List.mem_cons_of_mem _ hs)
    have h1 : backOne a l x = [x] := by unfold backOne; rw [if_neg (by omega)]
    unfold backL at ht ⊢
    rw [List.flatMap_cons, ht, h1]; rfl
theorem back_plain {n a l : Nat} (hl : 0 < l) : ∀ {lo : Nat} {ss : List Spn}, Canon lo n ss → (∃ s ∈ ss, s.1 ≤ a ∧ a + l ≤ s.1 + s.2) →
    Canon lo n (backL a l ss) ∧ ∀ k, inS (backL a l ss) k ↔ inS ss k ∧ ¬ (a ≤ k ∧ k < a + l)
  | _, [], _, ⟨_, h, _⟩ => by cases h
  | lo, x :: t, ⟨h1, h2, h3, h4⟩, ⟨s, hs, hs1, hs2⟩ => by
    have hcons : backL a l (x :: t) = backOne a l x ++ backL a l t := by rw [backL, List.flatMap_cons]
    rw [hcons]
    rcases List.mem_cons.1 hs with rfl | hs
    · have hab : backL a l t = t := backL_above fun y hy => by have := h4.ge y hy; omega
      rw [hab]
      unfold backOne
      rw [if_pos ⟨hs1, hs2⟩]
      have hk4 : ∀ k, inS t k → s.1 + s.2 + 1 ≤ k := fun k hk => (h4.inS_ge hk).1
      by_cases c1 : s.1 < a <;> by_cases c2 : a + l < s.1 + s.2 <;> simp only [c1, c2, if_true, if_false, List.append_assoc, List.cons_append, List.nil_append]
      · refine ⟨⟨h1, by dsimp only; omega, by dsimp only; omega, by dsimp only; omega, by dsimp only; omega, by dsimp only; omega, h4.weak (by dsimp only; omega)⟩, fun k => ?_⟩
        rw [inS_cons, inS_cons, inS_cons]
        dsimp only
        have := hk4 k
        by_cases hk : inS t k
        · have := this hk; simp only [hk, or_true, true_and, true_iff]; omega
        · simp only [hk, or_false]; omega
      · refine ⟨⟨h1, by dsimp only; omega, by dsimp only; omega, h4.weak (by dsimp only; omega)⟩, fun k => ?_⟩
        rw [inS_cons, inS_cons]
        dsimp only
        have := hk4 k
        by_cases hk : inS t k
        · have := this hk; simp only [hk, or_true, true_and, true_iff]; omega
        · simp only [hk, or_false]; omega
      · refine ⟨⟨by dsimp only; omega, by dsimp only; omega, by dsimp only; omega, h4.weak (by dsimp only; omega)⟩, fun k => ?_⟩
        rw [inS_cons, inS_cons]
        dsimp only
        have := hk4 k
        by_cases hk : inS t k
        · have := this hk; simp only [hk, or_true, true_and, true_iff]; omega
        · simp only [hk, or_false]; omega
      · refine ⟨h4.weak (by omega), fun k => ?_⟩
        rw [inS_cons]
        have := hk4 k
        by_cases hk : inS t k
        · have := this hk; simp only [hk, or_true, true_and, true_iff]; omega
        · simp only [hk, or_false, false_iff]; omega
    · have hg := h4.ge s hs
      obtain ⟨i1, i2⟩ := back_plain hl h4 ⟨s, hs, hs1, hs2⟩
      have hone : backOne a l x = [x] := by unfold backOne; rw [if_neg (by omega)]
      rw [hone]
      refine ⟨⟨h1, h2, h3, i1⟩, fun k => ?_⟩
      rw [List.singleton_append, inS_cons, i2 k, inS_cons]
      by_cases hk : inS t k
      · have := (h4.inS_ge hk).1; simp only [hk, or_true, true_and, true_iff]; omega
      · simp only [hk, or_false, false_and]; omega
/-! The marks, one for each byte. -/
def flags (n : Nat) (ss : List Spn) : List Bool := (List.range n).map fun k => decide (inS ss k)
theorem flags_len (n : Nat) (ss : List Spn) : (flags n ss).length = n := by simp [flags]
theorem flags_get {n k : Nat} {ss : List Spn} (h : k < n) : (flags n ss)[k]? = some (decide (inS ss k)) := by simp [flags, h]
theorem flags_ext {n : Nat} {ss : List Spn} {lt : List Bool} (hl : lt.length = n) (h : ∀ k, k < n → lt[k]? = some (decide (inS ss k))) : lt = flags n ss := by
  apply List.ext_getElem?
  intro k
  rcases Nat.lt_or_ge k n with hk | hk
  · rw [h k hk, flags_get hk]
  · rw [List.getElem?_eq_none (by omega), List.getElem?_eq_none (by rw [flags_len]; omega)]
def allB (lt : List Bool) (a l : Nat) (x : Bool) : Bool := ((lt.drop a).take l).all (· == x)
theorem allB_iff {lt : List Bool} {a l : Nat} {x : Bool} (h : a + l ≤ lt.length) : allB lt a l x = true ↔ ∀ k, a ≤ k → k < a + l → lt[k]? = some x := by
  unfold allB
  rw [List.all_eq_true]
  constructor
  · intro hh k h1 h2
    have hk : k < lt.length := by omega
    have hm : lt[k] ∈ (lt.drop a).take l := by
      rw [List.mem_iff_getElem?]
      exact ⟨k - a, by rw [List.getElem?_take, if_pos (by omega), List.getElem?_drop, show a + (k - a) = k by omega, List.getElem?_eq_getElem hk]⟩
    have := hh _ hm
    rw [List.getElem?_eq_getElem hk]
    simpa using this
  · intro hh y hy
    obtain ⟨j, hj⟩ := List.mem_iff_getElem?.1 hy
    rw [List.getElem?_take] at hj
    split at hj
    · rw [List.getElem?_drop, hh (a + j) (by omega) (by omega)] at hj
      cases hj; simp
    · cases hj
theorem all_false {n a l : Nat} {ss : List Spn} (h : Canon 0 n ss) (hb : a + l ≤ n) : allB (flags n ss) a l false = true ↔ sharedN ss a l = 0 := by
  rw [allB_iff (by rw [flags_len]; exact hb), shared_none h]
  constructor
  · intro hh k h1 h2 hk
    have := hh k h1 h2
    rw [flags_get (by omega)] at this
    simp [hk] at this
  · intro hh k h1 h2
    rw [flags_get (by omega)]
    simp [hh k h1 h2]
theorem all_true {n a l : Nat} {ss : List Spn} (h : Canon 0 n ss) (hb : a + l ≤ n) : allB (flags n ss) a l true = true ↔ l ≤ sharedN ss a l := by
  rw [allB_iff (by rw [flags_len]; exact hb), shared_all h]
  constructor
  · intro hh k h1 h2
    have := hh k h1 h2
    rw [flags_get (by omega)] at this
    simpa using this
  · intro hh k h1 h2
    rw [flags_get (by omega)]
    simp [hh k h1 h2]
def fillB (lt : List Bool) (a l : Nat) (x : Bool) : List Bool := lt.take a ++ List.replicate l x ++ lt.drop (a + l)
theorem fillB_len {lt : List Bool} {a l : Nat} {x : Bool} (h : a + l ≤ lt.length) : (fillB lt a l x).length = lt.length := by unfold fillB; simp; omega
theorem fillB_get {lt : List Bool} {a l : Nat} {x : Bool} (h : a + l ≤ lt.length) (k : Nat) (hk : k < lt.length) : (fillB lt a l x)[k]? = if a ≤ k ∧ k < a + l then some x else lt[k]? := by
  unfold fillB
  by_cases h1 : k < a
  · rw [List.append_assoc, List.getElem?_append_left (by simp; omega), List.getElem?_take, if_pos h1, if_neg (by omega)]
  · by_cases h2 : k < a + l
    · rw [List.getElem?_append_left (by simp; omega), List.getElem?_append_right (by simp; omega), if_pos ⟨by omega, h2⟩]
      rw [List.getElem?_replicate, if_pos (by simp; omega)]
    · rw [List.getElem?_append_right (by simp; omega), List.getElem?_drop, if_neg (by omega)]
      congr 1; simp; omega
theorem lend_flags {n a l : Nat} {ss tt : List Spn} (hb : a + l ≤ n) (h : ∀ k, inS tt k ↔ (a ≤ k ∧ k < a + l) ∨ inS ss k) : fillB (flags n ss) a l true = flags n tt := by
  refine flags_ext (by rw [fillB_len (by rw [flags_len]; exact hb), flags_len]) fun k hk => ?_
  rw [fillB_get (by rw [flags_len]; exact hb) k (by rw [flags_len]; exact hk), flags_get hk]
  have := h k
  split
  · rename_i hc; simp [this, hc]
  · rename_i hc; simp [this, hc]
theorem back_flags {n a l : Nat} {ss tt : List Spn} (hb : a + l ≤ n) (h : ∀ k, inS tt k ↔ inS ss k ∧ ¬ (a ≤ k ∧ k < a + l)) : fillB (flags n ss) a l false = flags n tt := by
  refine flags_ext (by rw [fillB_len (by rw [flags_len]; exact hb), flags_len]) fun k hk => ?_
  rw [fillB_get (by rw [flags_len]; exact hb) k (by rw [flags_len]; exact hk), flags_get hk]
  have := h k
  split
  · rename_i hc; simp [this, hc]
  · rename_i hc; simp only [this, hc, not_false_eq_true, and_true]
/-! What a call answers. -/
def readE (bs : List UInt8) (a : Nat) (n : Int) : List UInt8 × Nat := if n < 0 then ([], 2) else if a + n.toNat ≤ bs.length then ((bs.drop a).take n.toNat, 0) else ([], 10)
def writeE (bs : List UInt8) (lt : List Bool) (a : Nat) (s : List UInt8) (x : Bool) (e : Nat) : Nat × List UInt8 :=
  if a + s.length ≤ bs.length then (if allB lt a s.length x = true then (0, putB bs a s) else (e, bs)) else (10, bs)
def turnE (lt : List Bool) (a l : Nat) (x : Bool) (e : Nat) : Nat × List Bool :=
  if 0 < l ∧ a + l ≤ lt.length then (if allB lt a l (!x) = true then (0, fillB lt a l x) else (e, lt)) else (10, lt)
theorem writeE_len (bs : List UInt8) (lt : List Bool) (a : Nat) (s : List UInt8) (x : Bool) (e : Nat) : (writeE bs lt a s x e).2.length = bs.length := by
  unfold writeE
  split
  · split
    · rename_i h _; exact putB_len h
    · rfl
  · rfl
theorem turnE_len (lt : List Bool) (a l : Nat) (x : Bool) (e : Nat) : (turnE lt a l x e).2.length = lt.length := by
  unfold turnE
  split
  · split
    · rename_i h _; exact fillB_len h.2
    · rfl
  · rfl
def numE (bs : List UInt8) (a n : Nat) : Nat × Nat := if a + n ≤ bs.length then (leN ((bs.drop a).take n), 0) else (0, 10)
end Go.Proofs.Ytpidkdkbgjnhlaa
