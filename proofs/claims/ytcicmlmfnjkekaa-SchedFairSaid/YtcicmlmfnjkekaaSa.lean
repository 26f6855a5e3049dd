/- Lemmas for the proofs of this seat: no statement of the seat is claimed here. -/
import Derived.Test.YtcicmlmfnjkekaaKm
set_option linter.all false

namespace Go.Proofs.Ytcicmlmfnjkekaa
open Go Pw
set_option maxRecDepth 20000
set_option maxHeartbeats 4000000
set_option synthInstance.maxHeartbeats 400000
set_option synthInstance.maxSize 4000
set_option maxHeartbeats 1000000

def Ab.fit (A : Ab) (k : Nat) : Prop := ∃ S : Sc, S.good k ∧ S.abs = A
theorem ab_fit {p k : Nat} {A : Ab} {c : Ctx} {L : List Assn} {w : World} (hm : LMem (abA p k A) L) (hw : SL c L w) : A.fit k := by
  obtain ⟨S, h⟩ := SLh.purA (p := fun S : Sc => S.good k ∧ S.abs = A) (Ls := fun S : Sc => [scA p S]) hw.2.2.2 hm
  exact ⟨S, h⟩
theorem T.fit {P : Program} {r : Rd} {c : Ctx} {L : List Assn} {Q : Exit → Env → Rd → World → Prop} {E : Env} {code : Code} {p k : Nat} {A : Ab} {R : List Assn} (hd : Del (abA p k A) L R) (h : A.fit k → T P r c L code Q E) : T P r c L code Q E := by
  unfold T at *
  exact fun w hw => h (ab_fit (hd.lmem) hw) w hw
theorem t_some {A : Ab} {k n : Nat} {x : Tk} (h : A.fit k) (e : A.t n = some x) : x.id = n ∧ (n ∈ A.row ∧ x.st = 1 ∨ n ∈ A.waits ∧ x.st = 3 ∨ A.runs = some n ∧ x.st = 2) := by
  obtain ⟨S, hg, rfl⟩ := h
  have e' : (atP S.tm n).map S.tk = some x := e
  cases ha : atP S.tm n with
  | none => rw [ha] at e'; cases e'
  | some q =>
    rw [ha] at e'
    obtain rfl : S.tk q = x := Option.some.inj e'
    obtain ⟨_, h2, h3⟩ := hg.map n q ha
    refine ⟨h2, ?_⟩
    rcases mem_all.1 h3 with h | h | h
    · exact .inl ⟨List.mem_map.2 ⟨q, h, h2⟩, hg.srow q h⟩
    · exact .inr (.inl ⟨List.mem_map.2 ⟨q, h, h2⟩, hg.swt q h⟩)
    · refine .inr (.inr ⟨?_, hg.srn q h⟩)
      show S.runs.map S.idq = some n
      rw [h, ← h2]; rfl
theorem in_row {A : Ab} {k n : Nat} (h : A.fit k) (hn : n ∈ A.row) : ∃ x, A.t n = some x ∧ x.st = 1 := by
  obtain ⟨S, hg, rfl⟩ := h
  obtain ⟨q, hq, rfl⟩ := List.mem_map.1 (show n ∈ S.row.map S.idq from hn)
  exact ⟨S.tk q, hg.t_at (mem_all.2 (.inl hq)), hg.srow q hq⟩
theorem in_waits {A : Ab} {k n : Nat} (h : A.fit k) (hn : n ∈ A.waits) : ∃ x, A.t n = some x ∧ x.st = 3 := by
  obtain ⟨S, hg, rfl⟩ := h
  obtain ⟨q, hq, rfl⟩ := List.mem_map.1 (show n ∈ S.waits.map S.idq from hn)
  exact ⟨S.tk q, hg.t_at (mem_all.2 (.inr (.inl hq))), hg.swt q hq⟩
theorem in_runs {A : Ab} {k n : Nat} (h : A.fit k) (hn : A.runs = some n) : ∃ x, A.t n = some x ∧ x.st = 2 := by
  obtain ⟨S, hg, rfl⟩ := h
  have hn' : S.runs.map S.idq = some n := hn
  cases hr : S.runs with
  | none => rw [hr] at hn'; cases hn'
  | some q =>
    rw [hr] at hn'
    obtain rfl : S.idq q = n := Option.some.inj hn'
    exact ⟨S.tk q, hg.t_at (mem_all.2 (.inr (.inr hr))), hg.srn q hr⟩
theorem st_1 {A : Ab} {k n : Nat} (h : A.fit k) : A.state n = 1 ↔ n ∈ A.row := by
  constructor
  · intro e
    unfold Ab.state at e
    cases ht : A.t n with
    | none => rw [ht] at e; cases e
    | some x =>
      rw [ht] at e
      have e : x.st = 1 := e
      rcases (t_some h ht).2 with h | h | h
      · exact h.1
      · omega
      · omega
  · intro hn
    obtain ⟨x, hx, hs⟩ := in_row h hn
    unfold Ab.state; rw [hx]; exact hs
theorem st_2 {A : Ab} {k n : Nat} (h : A.fit k) : A.state n = 2 ↔ A.runs = some n := by
  constructor
  · intro e
    unfold Ab.state at e
    cases ht : A.t n with
    | none => rw [ht] at e; cases e
    | some x =>
      rw [ht] at e
      have e : x.st = 2 := e
      rcases (t_some h ht).2 with h | h | h
      · omega
      · omega
      · exact h.1
  · intro hn
    obtain ⟨x, hx, hs⟩ := in_runs h hn
    unfold Ab.state; rw [hx]; exact hs
theorem st_3 {A : Ab} {k n : Nat} (h : A.fit k) : A.state n = 3 ↔ n ∈ A.waits := by
  constructor
  · intro e
    unfold Ab.state at e
    cases ht : A.t n with
    | none => rw [ht] at e; cases e
    | some x =>
      rw [ht] at e
      have e : x.st = 3 := e
      rcases (t_some h ht).2 with h | h | h
      · omega
      · exact h.1
      · omega
  · intro hn
    obtain ⟨x, hx, hs⟩ := in_waits h hn
    unfold Ab.state; rw [hx]; exact hs
theorem nodup_map' {f : Nat → Nat} : ∀ {l : List Nat}, l.Nodup → (∀ a ∈ l, ∀ b ∈ l, f a = f b → a = b) → (l.map f).Nodup
  | [], _, _ => List.nodup_nil
  | a :: l, h, hi => by
    rw [List.nodup_cons] at h
    rw [List.map_cons, List.nodup_cons]
    refine ⟨fun e => ?_, nodup_map' h.2 (fun x hx y hy => hi x (List.mem_cons_of_mem _ hx) y (List.mem_cons_of_mem _ hy))⟩
    obtain ⟨b, hb, e⟩ := List.mem_map.1 e
    have := hi b (List.mem_cons_of_mem _ hb) a (List.mem_cons_self ..) e
    exact h.1 (this ▸ hb)
theorem nd_row {A : Ab} {k : Nat} (h : A.fit k) : A.row.Nodup := by
  obtain ⟨S, hg, rfl⟩ := h
  exact nodup_map' (hg.nd.sublist (List.sublist_append_left _ _)) (fun a ha b hb e => hg.inj (mem_all.2 (.inl ha)) (mem_all.2 (.inl hb)) e)
theorem nd_waits {A : Ab} {k : Nat} (h : A.fit k) : A.waits.Nodup := by
  obtain ⟨S, hg, rfl⟩ := h
  exact nodup_map' ((hg.nd.sublist (List.sublist_append_right _ _)).sublist (List.sublist_append_left _ _)) (fun a ha b hb e => hg.inj (mem_all.2 (.inr (.inl ha))) (mem_all.2 (.inr (.inl hb))) e)
/-- How often one stands in a row. -/
def cntE (l : List Nat) (id : Nat) : Nat := l.foldl (fun n a => if a = id then n + 1 else n) 0
theorem cntE_next {l : List Nat} {id j : Nat} (h : j < l.length) : cntE (l.take (j + 1)) id = if gt l j = id then cntE (l.take j) id + 1 else cntE (l.take j) id := by
  rw [take_gt h, cntE, List.foldl_append]; rfl
theorem cnt_fold (id : Nat) : ∀ (l : List Nat) (n : Nat), l.foldl (fun n a => if a = id then n + 1 else n) n = n + cntE l id
  | [], n => rfl
  | a :: l, n => by
    have e : cntE (a :: l) id = (if a = id then 0 + 1 else 0) + cntE l id := by
      show l.foldl _ (if a = id then 0 + 1 else 0) = _
      rw [cnt_fold id l]
    rw [List.foldl_cons, cnt_fold id l, e]
    by_cases h : a = id
    · rw [if_pos h, if_pos h]; omega
    · rw [if_neg h, if_neg h]; omega
theorem cnt_cons (id a : Nat) (l : List Nat) : cntE (a :: l) id = (if a = id then 1 else 0) + cntE l id := by
  show l.foldl _ (if a = id then 0 + 1 else 0) = _
  rw [cnt_fold id l]
theorem cnt_out {id : Nat} : ∀ {l : List Nat}, id ∉ l → cntE l id = 0
  | [], _ => rfl
  | a :: l, h => by
    rw [List.mem_cons, not_or] at h
    rw [cnt_cons, if_neg (fun e => h.1 e.symm), cnt_out h.2]
theorem cnt_in {id : Nat} : ∀ {l : List Nat}, l.Nodup → id ∈ l → cntE l id = 1
  | a :: l, hn, h => by
    rw [List.nodup_cons] at hn
    rw [cnt_cons]
    rcases List.mem_cons.1 h with rfl | h
    · rw [if_pos rfl, cnt_out hn.1]
    · rw [if_neg (fun e : a = id => hn.1 (by rw [e]; exact h)), cnt_in hn.2 h]
theorem cnt_st {A : Ab} {k : Nat} (h : A.fit k) (id : Nat) : (cntE A.row id = 1 ↔ A.state id = 1) ∧ cntE A.row id ≤ 1 := by
  rw [st_1 h]
  by_cases hm : id ∈ A.row
  · rw [cnt_in (nd_row h) hm]; exact ⟨⟨fun _ => hm, fun _ => rfl⟩, Nat.le_refl _⟩
  · rw [cnt_out hm]; exact ⟨⟨fun e => absurd e (by decide), fun e => absurd e hm⟩, Nat.zero_le _⟩
/-- How many of the first ones run. -/
def rcnt (A : Ab) (id : Nat) : Nat := match A.runs with
  | none => 0
  | some r => if r < id then 1 else 0
theorem rcnt_0 (A : Ab) : rcnt A 0 = 0 := by unfold rcnt; split <;> rfl
theorem rcnt_le (A : Ab) (id : Nat) : rcnt A id ≤ 1 := by
  unfold rcnt
  split
  · exact Nat.zero_le _
  · split
    · exact Nat.le_refl _
    · exact Nat.zero_le _
theorem rcnt_t {A : Ab} {k id : Nat} (h : A.fit k) (e : A.state id = 2) : rcnt A (id + 1) = rcnt A id + 1 := by
  rw [st_2 h] at e
  unfold rcnt; rw [e]
  show (if id < id + 1 then 1 else 0) = (if id < id then 1 else 0) + 1
  rw [if_pos (Nat.lt_succ_self _), if_neg (Nat.lt_irrefl _)]
theorem rcnt_f {A : Ab} {k id : Nat} (h : A.fit k) (e : ¬ A.state id = 2) : rcnt A (id + 1) = rcnt A id := by
  rw [st_2 h] at e
  unfold rcnt
  cases hr : A.runs with
  | none => rfl
  | some r =>
    show (if r < id + 1 then 1 else 0) = (if r < id then 1 else 0)
    have : r ≠ id := fun x => e (by rw [hr, x])
    by_cases h1 : r < id
    · rw [if_pos h1, if_pos (by omega)]
    · rw [if_neg h1, if_neg (by omega)]
theorem short_of {n : Nat} : ∀ {l : List Nat}, l.Nodup → (∀ x ∈ l, x < n) → l.length ≤ n := by
  induction n with
  | zero =>
    intro l _ h
    cases l with
    | nil => exact Nat.le_refl _
    | cons a l => exact absurd (h a (List.mem_cons_self ..)) (Nat.not_lt_zero _)
  | succ n ih =>
    intro l hn h
    have h1 := ih (l := l.erase n) (hn.erase n) (fun x hx => by
      have h2 := h x (List.mem_of_mem_erase hx)
      have h3 : x ≠ n := fun e => by subst e; exact (List.Nodup.not_mem_erase hn) hx
      omega)
    have h2 := List.length_erase (a := n) (l := l)
    rw [h2] at h1
    split at h1 <;> omega
/-- Only few numbers. -/
def Ab.few (A : Ab) (n : Nat) : Prop := ∀ m, n ≤ m → A.t m = none
theorem few_waits {A : Ab} {k n : Nat} (h : A.fit k) (hf : A.few n) : A.waits.length ≤ n := by
  refine short_of (nd_waits h) fun x hx => ?_
  obtain ⟨y, hy, _⟩ := in_waits h hx
  rcases Nat.lt_or_ge x n with h | h
  · exact h
  · rw [hf x h] at hy; cases hy
theorem few_row {A : Ab} {k n : Nat} (h : A.fit k) (hf : A.few n) : A.row.length ≤ n := by
  refine short_of (nd_row h) fun x hx => ?_
  obtain ⟨y, hy, _⟩ := in_row h hx
  rcases Nat.lt_or_ge x n with h | h
  · exact h
  · rw [hf x h] at hy; cases hy
theorem upd_few {A : Ab} {n : Nat} (g : Tk → Tk) (l : List Nat) (h : A.few n) : (A.upd g l).few n := fun m hm => by
  show (A.t m).map _ = none
  rw [h m hm]; rfl
theorem few_of_t {A B : Ab} {n : Nat} (h : A.few n) (e : B.t = A.t) : B.few n := fun m hm => by rw [e]; exact h m hm
/-- The state of one behind a change. -/
theorem upd_state {A : Ab} {g : Tk → Tk} {l : List Nat} {n : Nat} : (A.upd g l).state n = match A.t n with | none => 0 | some x => (if n ∈ l then g x else x).st := by
  unfold Ab.state
  show (match (A.t n).map (fun x => if n ∈ l then g x else x) with | none => 0 | some x => Tk.st x) = _
  cases A.t n <;> rfl
theorem upd_same {A : Ab} {g : Tk → Tk} {l : List Nat} {n : Nat} (h : n ∉ l) : (A.upd g l).state n = A.state n := by
  rw [upd_state]
  unfold Ab.state
  cases A.t n with
  | none => rfl
  | some x => show (if n ∈ l then g x else x).st = x.st; rw [if_neg h]
theorem upd_rdy {A : Ab} {ti : Bool} {l : List Nat} {n : Nat} (h : n ∈ l) (hs : A.state n = 3) : (A.upd (rdyG ti) l).state n = 1 := by
  rw [upd_state]
  unfold Ab.state at hs
  cases ht : A.t n with
  | none => rw [ht] at hs; cases hs
  | some x => show (if n ∈ l then rdyG ti x else x).st = 1; rw [if_pos h]; rfl
theorem state_t {A B : Ab} {n : Nat} (e : B.t = A.t) : B.state n = A.state n := by unfold Ab.state; rw [e]
theorem w_yield {A : Ab} {k n : Nat} (h : A.fit k) (hs : A.state n = 3) : A.yield.1.state n = 3 := by
  unfold Ab.yield
  cases hr : A.runs with
  | none => exact hs
  | some t =>
    show (A.upd (rdyG false) [t]).state n = 3
    rw [upd_same]; exact hs
    intro e
    have := (st_2 h).2 hr
    rw [List.mem_singleton.1 e] at hs
    omega
theorem w_wait {A : Ab} {k n q u : Nat} (h : A.fit k) (hs : A.state n = 3) : (A.wait q u).1.state n = 3 := by
  unfold Ab.wait
  cases hr : A.runs with
  | none => exact hs
  | some t =>
    dsimp only
    split
    · exact hs
    · show (A.upd (wtG q u) [t]).state n = 3
      rw [upd_same]; exact hs
      intro e
      have := (st_2 h).2 hr
      rw [List.mem_singleton.1 e] at hs
      omega
theorem w_done {A : Ab} {k n : Nat} (h : A.fit k) (hs : A.state n = 3) : A.done.1.state n = 3 := by
  unfold Ab.done
  cases hr : A.runs with
  | none => exact hs
  | some t =>
    have hn : n ≠ t := fun e => by
      have := (st_2 h).2 hr
      rw [e] at hs; omega
    unfold Ab.state at hs ⊢
    show (match (if n = t then none else A.t n) with | none => 0 | some x => x.st) = 3
    rw [if_neg hn]; exact hs
theorem w_spawn {A : Ab} {n m : Nat} (hs : A.state n = 3) : (A.spawn m).1.state n = 3 := by
  unfold Ab.spawn
  split
  · exact hs
  · rename_i h1
    split
    · exact hs
    · have hn : n ≠ m := fun e => by
        unfold Ab.state at hs
        rw [e] at hs
        cases ht : A.t m with
        | none => rw [ht] at hs; cases hs
        | some x => rw [ht] at h1; exact h1 rfl
      unfold Ab.state at hs ⊢
      show (match (if n = m then _ else A.t n) with | none => 0 | some x => x.st) = 3
      rw [if_neg hn]; exact hs
theorem w_pick {A : Ab} {k n m : Nat} (h : A.fit k) (hs : A.state n = 3) : (A.pick m).1.state n = 3 := by
  unfold Ab.pick
  cases hr : A.runs with
  | some t => exact hs
  | none =>
    dsimp only
    split
    · exact hs
    · rename_i hne
      have hi := pickAt_lt (pat := A.pat) (tk := A.get) (n := m) hne
      generalize pickAt A.pat A.get A.row m = i at hi
      have hnr : n ∉ A.row := fun e => by have := (st_1 h).2 e; omega
      have hp := gt_perm hi
      show ((A.upd incG (A.row.eraseIdx i)).upd runG [gt A.row i]).state n = 3
      rw [upd_same (fun e => hnr (by rw [List.mem_singleton.1 e]; exact hp.mem_iff.1 (List.mem_cons_self ..))), upd_same (fun e => hnr (hp.mem_iff.1 (List.mem_cons_of_mem _ e)))]
      exact hs
theorem w_wake {A : Ab} {n q : Nat} {m : Int} (hs : A.state n = 3) : (A.wake q m).state n = 3 ∨ (A.wake q m).state n = 1 := by
  show (A.upd (rdyG false) (A.wakeR q m).1).state n = 3 ∨ (A.upd (rdyG false) (A.wakeR q m).1).state n = 1
  by_cases h : n ∈ (A.wakeR q m).1
  · exact .inr (upd_rdy h hs)
  · rw [upd_same h]; exact .inl hs
theorem w_tick {A : Ab} {n t : Nat} (hs : A.state n = 3) : (A.tick t).1.state n = 3 ∨ (A.tick t).1.state n = 1 := by
  unfold Ab.tick
  split
  · exact .inl hs
  · show (A.upd (rdyG true) (A.tickL t)).state n = 3 ∨ (A.upd (rdyG true) (A.tickL t)).state n = 1
    by_cases h : n ∈ A.tickL t
    · exact .inr (upd_rdy h hs)
    · rw [upd_same h]; exact .inl hs
/-- One step of SchedPlace. -/
def stepP (A : Ab) (x : Stp) : Ab :=
  if x.d = 0 then (A.spawn (x.id % 6)).1 else if x.d = 1 then (A.pick x.n).1 else if x.d = 2 then A.yield.1 else if x.d = 3 then (A.wait (x.id % 6 % 3) (A.now + x.n % 4)).1 else if x.d = 4 then A.done.1 else if x.d = 5 then A.wake (x.id % 6 % 3) x.m else if x.d = 6 then (A.tick (A.now + x.n % 5)).1 else A
theorem stepP_0 {A : Ab} {x : Stp} (h : x.d = 0) : stepP A x = (A.spawn (x.id % 6)).1 := if_pos h
theorem stepP_1 {A : Ab} {x : Stp} (h : x.d = 1) : stepP A x = (A.pick x.n).1 := by unfold stepP; rw [if_neg (by omega), if_pos h]
theorem stepP_2 {A : Ab} {x : Stp} (h : x.d = 2) : stepP A x = A.yield.1 := by unfold stepP; rw [if_neg (by omega), if_neg (by omega), if_pos h]
theorem stepP_3 {A : Ab} {x : Stp} (h : x.d = 3) : stepP A x = (A.wait (x.id % 6 % 3) (A.now + x.n % 4)).1 := by unfold stepP; rw [if_neg (by omega), if_neg (by omega), if_neg (by omega), if_pos h]
theorem stepP_4 {A : Ab} {x : Stp} (h : x.d = 4) : stepP A x = A.done.1 := by unfold stepP; rw [if_neg (by omega), if_neg (by omega), if_neg (by omega), if_neg (by omega), if_pos h]
theorem stepP_5 {A : Ab} {x : Stp} (h : x.d = 5) : stepP A x = A.wake (x.id % 6 % 3) x.m := by unfold stepP; rw [if_neg (by omega), if_neg (by omega), if_neg (by omega), if_neg (by omega), if_neg (by omega), if_pos h]
theorem stepP_6 {A : Ab} {x : Stp} (h : x.d = 6) : stepP A x = (A.tick (A.now + x.n % 5)).1 := by unfold stepP; rw [if_neg (by omega), if_neg (by omega), if_neg (by omega), if_neg (by omega), if_neg (by omega), if_neg (by omega), if_pos h]
theorem stepP_7 {A : Ab} {x : Stp} (h0 : ¬ x.d = 0) (h1 : ¬ x.d = 1) (h2 : ¬ x.d = 2) (h3 : ¬ x.d = 3) (h4 : ¬ x.d = 4) (h5 : ¬ x.d = 5) (h6 : ¬ x.d = 6) : stepP A x = A := by unfold stepP; rw [if_neg h0, if_neg h1, if_neg h2, if_neg h3, if_neg h4, if_neg h5, if_neg h6]
theorem Imp.abP {p k k' : Nat} {A B : Ab} {L L' R : List Assn} (hd : Del (abA p k A) L R) (hk : k ≤ k') (e : A = B) (h : Imp R L') : Imp L (abA p k' B :: L') := by
  subst e
  intro f hf
  obtain ⟨f1, f2, hdj, h1, h2, hx, hl⟩ := hf.perm hd.perm
  obtain ⟨S, hS, hs⟩ := hx
  exact ⟨f1, f2, hdj, h1, h2, ⟨S, ⟨hS.1.mono hk, hS.2⟩, hs⟩, h _ hl⟩
theorem stepP_w {A : Ab} {k n : Nat} {x : Stp} (h : A.fit k) (hs : A.state n = 3) : (stepP A x).state n = 3 ∨ (stepP A x).state n = 1 ∧ (x.d = 5 ∨ x.d = 6) := by
  unfold stepP
  split
  · exact .inl (w_spawn hs)
  split
  · exact .inl (w_pick h hs)
  split
  · exact .inl (w_yield h hs)
  split
  · exact .inl (w_wait h hs)
  split
  · exact .inl (w_done h hs)
  split
  · rename_i h5
    rcases w_wake (A := A) (q := x.id % 6 % 3) (m := x.m) hs with h | h
    · exact .inl h
    · exact .inr ⟨h, .inl h5⟩
  split
  · rename_i h6
    rcases w_tick (A := A) (t := A.now + x.n % 5) hs with h | h
    · exact .inl h
    · exact .inr ⟨h, .inr h6⟩
  · exact .inl hs
theorem now_yield {A : Ab} : A.yield.1.now = A.now := by unfold Ab.yield; split <;> rfl
theorem now_wait {A : Ab} {q u : Nat} : (A.wait q u).1.now = A.now := by unfold Ab.wait; split <;> (try split) <;> rfl
theorem now_done {A : Ab} : A.done.1.now = A.now := by unfold Ab.done; split <;> rfl
theorem now_spawn {A : Ab} {n : Nat} : (A.spawn n).1.now = A.now := by unfold Ab.spawn; split <;> (try split) <;> rfl
theorem now_pick {A : Ab} {n : Nat} : (A.pick n).1.now = A.now := by unfold Ab.pick; split <;> (try split) <;> rfl
theorem now_tick {A : Ab} {n : Nat} (h : A.now < 4611686018427387904) : (A.tick n).1.now < 4611686018427387904 := by
  unfold Ab.tick
  split
  · exact h
  · rename_i h1; show n < _; omega
theorem stepP_now {A : Ab} {x : Stp} (h : A.now < 4611686018427387904) : (stepP A x).now < 4611686018427387904 := by
  unfold stepP
  split
  · rw [now_spawn]; exact h
  split
  · rw [now_pick]; exact h
  split
  · rw [now_yield]; exact h
  split
  · rw [now_wait]; exact h
  split
  · rw [now_done]; exact h
  split
  · exact h
  split
  · exact now_tick h
  · exact h
theorem few_yield {A : Ab} {n : Nat} (h : A.few n) : A.yield.1.few n := by
  unfold Ab.yield; split
  · exact h
  · exact few_of_t (upd_few _ _ h) rfl
theorem few_wait {A : Ab} {n q u : Nat} (h : A.few n) : (A.wait q u).1.few n := by
  unfold Ab.wait; split
  · exact h
  · split
    · exact h
    · exact few_of_t (upd_few _ _ h) rfl
theorem few_done {A : Ab} {n : Nat} (h : A.few n) : A.done.1.few n := by
  unfold Ab.done; split
  · exact h
  · intro m hm
    show (if m = _ then none else A.t m) = none
    split
    · rfl
    · exact h m hm
theorem few_spawn {A : Ab} {n k : Nat} (h : A.few n) (hk : k < n) : (A.spawn k).1.few n := by
  unfold Ab.spawn; split
  · exact h
  · split
    · exact h
    · intro m hm
      show (if m = k then _ else A.t m) = none
      rw [if_neg (by omega)]; exact h m hm
theorem few_pick {A : Ab} {n k : Nat} (h : A.few n) : (A.pick k).1.few n := by
  unfold Ab.pick; split
  · exact h
  · split
    · exact h
    · exact few_of_t (upd_few _ _ (upd_few _ _ h)) rfl
theorem few_wake {A : Ab} {n q : Nat} {m : Int} (h : A.few n) : (A.wake q m).few n := few_of_t (upd_few (rdyG false) (A.wakeR q m).1 h) rfl
theorem few_tick {A : Ab} {n t : Nat} (h : A.few n) : (A.tick t).1.few n := by
  unfold Ab.tick; split
  · exact h
  · exact few_of_t (upd_few _ _ h) rfl
theorem stepP_few {A : Ab} {x : Stp} (h : A.few 6) : (stepP A x).few 6 := by
  unfold stepP
  split
  · exact few_spawn h (Nat.mod_lt _ (by omega))
  split
  · exact few_pick h
  split
  · exact few_yield h
  split
  · exact few_wait h
  split
  · exact few_done h
  split
  · exact few_wake h
  split
  · exact few_tick h
  · exact h

end Go.Proofs.Ytcicmlmfnjkekaa

