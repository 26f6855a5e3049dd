/- Lemmas for the proofs of this seat: no statement of the seat is claimed here. -/
import Derived.Test.YtbandaebilkkkaaDoorK7
set_option linter.all false
namespace Go.Proofs.YtbandaebilkkkaaDoor
open Go Pw
set_option maxRecDepth 20000
set_option maxHeartbeats 4000000
def tidyE (now : Nat) (l : List Nr) : List Nr := l.filter fun s => !decide (s.u ≤ now)
def posE (a : Nat) (l : List Nr) : Nat := (l.takeWhile fun s => decide (s.a < a)).length
def hasE (a : Nat) (l : List Nr) : Bool := l.any fun s => decide (s.a = a)
def Srt (l : List Nr) : Prop := l.Pairwise fun x y => x.a < y.a
theorem tidy_srt {l : List Nr} {now : Nat} (h : Srt l) : Srt (tidyE now l) := List.Pairwise.filter _ h
theorem tidy_len (l : List Nr) (now : Nat) : (tidyE now l).length ≤ l.length := List.length_filter_le _ _
theorem pos_le (a : Nat) : ∀ l : List Nr, posE a l ≤ l.length := fun l => by unfold posE; exact (List.takeWhile_sublist _).length_le
theorem pos_cons (a : Nat) (x : Nr) (l : List Nr) : posE a (x :: l) = if x.a < a then posE a l + 1 else 0 := by
  unfold posE; rw [List.takeWhile_cons]; by_cases h : x.a < a <;> simp [h]
theorem take_pos (a : Nat) : ∀ (l : List Nr), ∀ s ∈ l.take (posE a l), s.a < a
  | [], s, h => by simp at h
  | x :: l, s, h => by
    rw [pos_cons] at h
    split at h
    · rw [List.take_succ_cons, List.mem_cons] at h
      rcases h with rfl | h
      · assumption
      · exact take_pos a l s h
    · simp at h
theorem drop_pos (a : Nat) : ∀ (l : List Nr), Srt l → ∀ s ∈ l.drop (posE a l), a ≤ s.a
  | [], _, s, h => by simp at h
  | x :: l, hs, s, h => by
    rw [pos_cons] at h
    split at h
    · rw [List.drop_succ_cons] at h
      exact drop_pos a l (List.pairwise_cons.1 hs).2 s h
    · rename_i hx
      rw [List.drop_zero, List.mem_cons] at h
      rcases h with rfl | h
      · omega
      · have := (List.pairwise_cons.1 hs).1 s h; omega
theorem pos_eq (a : Nat) : ∀ (l : List Nr) (i : Nat), i ≤ l.length → (∀ s ∈ l.take i, s.a < a) → (∀ s ∈ l.drop i, a ≤ s.a) → i = posE a l
  | [], i, h, _, _ => by simp at h; subst h; rfl
  | x :: l, 0, _, _, h2 => by
    rw [pos_cons, if_neg (by have := h2 x (by simp); omega)]
  | x :: l, i + 1, h, h1, h2 => by
    rw [pos_cons, if_pos (h1 x (by simp)), ← pos_eq a l i (by simpa using h) (fun s hs => h1 s (by rw [List.take_succ_cons]; exact List.mem_cons_of_mem _ hs)) (fun s hs => h2 s (by rw [List.drop_succ_cons]; exact hs))]
theorem has_iff (a : Nat) (l : List Nr) : hasE a l = true ↔ ∃ s ∈ l, s.a = a := by simp [hasE]
theorem has_pos {a : Nat} {l : List Nr} (hs : Srt l) : hasE a l = true ↔ ∃ s, l[posE a l]? = some s ∧ s.a = a := by
  rw [has_iff]
  constructor
  · rintro ⟨s, hm, rfl⟩
    rw [← List.take_append_drop (posE s.a l) l, List.mem_append] at hm
    rcases hm with hm | hm
    · have := take_pos _ _ s hm; omega
    · obtain ⟨d, ds, hd⟩ : ∃ d ds, l.drop (posE s.a l) = d :: ds := by
        cases hx : l.drop (posE s.a l) with
        | nil => rw [hx] at hm; cases hm
        | cons d ds => exact ⟨d, ds, rfl⟩
      have h0 : l[posE s.a l]? = some d := by
        have := congrArg (fun z => z[0]?) hd
        simpa using this
      refine ⟨d, h0, ?_⟩
      have h1 := drop_pos s.a l hs d (by rw [hd]; simp)
      rw [hd, List.mem_cons] at hm
      rcases hm with rfl | hm
      · rfl
      · have h2 : Srt (d :: ds) := hd ▸ List.Pairwise.drop hs
        have := (List.pairwise_cons.1 h2).1 s hm
        omega
  · rintro ⟨s, h1, h2⟩
    exact ⟨s, List.mem_of_getElem? h1, h2⟩
theorem srt_get {l : List Nr} (h : Srt l) {m k : Nat} {x y : Nr} (hmk : m ≤ k) (hx : l[m]? = some x) (hy : l[k]? = some y) : x.a ≤ y.a := by
  rcases Nat.lt_or_eq_of_le hmk with hlt | rfl
  · have hk : k < l.length := by rcases Nat.lt_or_ge k l.length with h5 | h5; exact h5; rw [List.getElem?_eq_none h5] at hy; cases hy
    rw [List.getElem?_eq_getElem (by omega)] at hx hy
    cases hx; cases hy
    exact Nat.le_of_lt (List.pairwise_iff_getElem.1 h m k (by omega) hk hlt)
  · rw [hx] at hy; cases hy; exact Nat.le_refl _
theorem cmp_lt (s a : Nat) : (if s < a then (-1 : Int) else if a < s then 1 else 0) < 0 ↔ s < a := by
  split
  · simp [*]
  · split <;> simp [*]
theorem cmp_ge (s a : Nat) : 0 ≤ (if s < a then (-1 : Int) else if a < s then 1 else 0) ↔ a ≤ s := by
  split
  · constructor <;> intro h <;> omega
  · split <;> constructor <;> intro h <;> omega
theorem cmp_eq (s a : Nat) : (if s < a then (-1 : Int) else if a < s then 1 else 0) = 0 ↔ s = a := by
  split
  · constructor <;> intro h <;> omega
  · split <;> constructor <;> intro h <;> omega
theorem put_srt {a : Nat} {l : List Nr} {n : Nr} (hs : Srt l) (hn : n.a = a) (hh : hasE a l = false) : Srt (l.take (posE a l) ++ n :: l.drop (posE a l)) := by
  have hd : ∀ s ∈ l.drop (posE a l), n.a < s.a := fun s h => by
    have h1 := drop_pos a l hs s h
    rcases Nat.lt_or_eq_of_le h1 with h2 | h2
    · omega
    · have := (has_iff a l).2 ⟨s, List.mem_of_mem_drop h, h2.symm⟩
      rw [hh] at this; cases this
  refine List.pairwise_append.2 ⟨List.Pairwise.take hs, List.pairwise_cons.2 ⟨hd, List.Pairwise.drop hs⟩, ?_⟩
  intro x hx y hy
  have h1 := take_pos a l x hx
  rcases List.mem_cons.1 hy with rfl | hy
  · omega
  · have := hd y hy; omega
theorem map_set_a (l : List Nr) (i : Nat) (n s : Nr) (hs : l[i]? = some s) (hn : n.a = s.a) : (l.set i n).map (·.a) = l.map (·.a) := by
  rw [List.map_set, hn]
  apply List.ext_getElem?
  intro j
  rw [List.getElem?_set]
  split
  · rename_i h; subst h
    rw [List.length_map]
    have hi : i < l.length := by rcases Nat.lt_or_ge i l.length with h5 | h5; exact h5; rw [List.getElem?_eq_none h5] at hs; cases hs
    rw [if_pos hi, List.getElem?_map, hs]; rfl
  · rfl
theorem srt_map (l : List Nr) : Srt l ↔ (l.map (·.a)).Pairwise (· < ·) := by unfold Srt; rw [List.pairwise_map]
theorem set_srt {l : List Nr} {i : Nat} {n s : Nr} (h : Srt l) (hs : l[i]? = some s) (hn : n.a = s.a) : Srt (l.set i n) := by
  rw [srt_map, map_set_a l i n s hs hn, ← srt_map]; exact h
structure Tb where
  mac : List UInt8
  addr : Nat
  most : Nat
  life : Nat
structure Tb.ok (T : Tb) : Prop where
  mac : T.mac.length ≤ 1048576
  alone : aloneE T.mac = true
  addr : T.addr < 4294967296
  aloneA : aloneA T.addr = true
  m1 : 1 ≤ T.most
  m2 : T.most ≤ 64
  l1 : 1 ≤ T.life
  l2 : T.life ≤ 4294967296
def tabV (T : Tb) (v : Value) : List Value := [str T.mac, .int .u32 T.addr, .int .i64 T.most, .int .u64 T.life, v]
def learnE (T : Tb) (l : List Nr) (addr : Nat) (mac : List UInt8) (now : Nat) : List Nr × Nat :=
  if aloneA addr = false ∨ aloneE mac = false ∨ addr = T.addr ∨ 4611686018427387904 ≤ now then (l, 2)
  else if hasE addr (tidyE now l) = true then ((tidyE now l).set (posE addr (tidyE now l)) ⟨addr, mac, now + T.life⟩, 0)
  else if T.most ≤ (tidyE now l).length then (tidyE now l, 6)
  else ((tidyE now l).take (posE addr (tidyE now l)) ++ ⟨addr, mac, now + T.life⟩ :: (tidyE now l).drop (posE addr (tidyE now l)), 0)
def takeE (T : Tb) (l : List Nr) (a : Ar) (now : Nat) : List Nr × Ar × Bool × Nat :=
  if mayE a = false ∨ 4611686018427387904 ≤ now ∨ aloneE a.f = false ∨ aloneA a.fa = false ∨ a.fa = T.addr then (l, ar0, false, 2)
  else
    (if hasE a.fa (tidyE now l) = true ∨ a.ta = T.addr then (learnE T (tidyE now l) a.fa a.f now).1 else tidyE now l,
     if a.ta ≠ T.addr ∨ a.op ≠ 1 then (ar0, false, 0) else (⟨2, T.mac, T.addr, a.f, a.fa⟩, true, 0))
def lookE (l : List Nr) (addr now : Nat) : List Nr × List UInt8 × Nat :=
  if 4611686018427387904 ≤ now then (l, [], 2)
  else (tidyE now l, match (tidyE now l).find? (fun s => decide (s.a = addr)) with | some s => (s.m, 0) | none => ([], 5))
def nearE (l : List Nr) (now : Nat) : List Nr := if now < 4611686018427387904 then tidyE now l else l
theorem learn_bad {T : Tb} {l : List Nr} {addr : Nat} {mac : List UInt8} {now : Nat} (h : aloneA addr = false ∨ aloneE mac = false ∨ addr = T.addr ∨ 4611686018427387904 ≤ now) : learnE T l addr mac now = (l, 2) := if_pos h
theorem learn_set {T : Tb} {l : List Nr} {addr : Nat} {mac : List UInt8} {now : Nat} (h : ¬ (aloneA addr = false ∨ aloneE mac = false ∨ addr = T.addr ∨ 4611686018427387904 ≤ now)) (h2 : hasE addr (tidyE now l) = true) :
    learnE T l addr mac now = ((tidyE now l).set (posE addr (tidyE now l)) ⟨addr, mac, now + T.life⟩, 0) := (if_neg h).trans (if_pos h2)
theorem learn_full {T : Tb} {l : List Nr} {addr : Nat} {mac : List UInt8} {now : Nat} (h : ¬ (aloneA addr = false ∨ aloneE mac = false ∨ addr = T.addr ∨ 4611686018427387904 ≤ now)) (h2 : ¬ hasE addr (tidyE now l) = true) (h3 : T.most ≤ (tidyE now l).length) :
    learnE T l addr mac now = (tidyE now l, 6) := ((if_neg h).trans (if_neg h2)).trans (if_pos h3)
theorem learn_put {T : Tb} {l : List Nr} {addr : Nat} {mac : List UInt8} {now : Nat} (h : ¬ (aloneA addr = false ∨ aloneE mac = false ∨ addr = T.addr ∨ 4611686018427387904 ≤ now)) (h2 : ¬ hasE addr (tidyE now l) = true) (h3 : ¬ T.most ≤ (tidyE now l).length) :
    learnE T l addr mac now = ((tidyE now l).take (posE addr (tidyE now l)) ++ ⟨addr, mac, now + T.life⟩ :: (tidyE now l).drop (posE addr (tidyE now l)), 0) := ((if_neg h).trans (if_neg h2)).trans (if_neg h3)
theorem learn_srt {T : Tb} {l : List Nr} {addr : Nat} {mac : List UInt8} {now : Nat} (h : Srt l) : Srt (learnE T l addr mac now).1 := by
  unfold learnE
  split
  · exact h
  · have h1 := tidy_srt (now := now) h
    split
    · rename_i h2
      obtain ⟨s, hs, hsa⟩ := (has_pos h1).1 h2
      exact set_srt h1 hs hsa.symm
    · rename_i h2
      split
      · exact h1
      · exact put_srt h1 rfl (by simpa using h2)
theorem learn_len {T : Tb} {l : List Nr} {addr : Nat} {mac : List UInt8} {now : Nat} (h : l.length ≤ T.most) : (learnE T l addr mac now).1.length ≤ T.most := by
  have h1 := tidy_len l now
  unfold learnE
  split
  · exact h
  · split
    · simp only [List.length_set]; omega
    · split
      · dsimp only; omega
      · have := pos_le addr (tidyE now l)
        simp only [List.length_append, List.length_cons, List.length_take, List.length_drop]; omega
end Go.Proofs.YtbandaebilkkkaaDoor
