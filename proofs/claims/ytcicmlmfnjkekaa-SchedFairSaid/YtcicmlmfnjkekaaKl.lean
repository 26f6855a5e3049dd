/- Lemmas for the proofs of this seat: no statement of the seat is claimed here. -/
import Derived.Test.YtcicmlmfnjkekaaKj
set_option linter.all false

namespace Go.Proofs.Ytcicmlmfnjkekaa
open Go Pw
set_option maxRecDepth 20000
set_option maxHeartbeats 4000000
set_option synthInstance.maxHeartbeats 400000
set_option synthInstance.maxSize 4000
set_option maxHeartbeats 1000000

theorem atP_nil (n : Nat) : atP [] n = none := rfl
theorem atP_cons (a : Nat × Nat) (l : List (Nat × Nat)) (n : Nat) : atP (a :: l) n = if a.1 = n then some a.2 else atP l n := by
  unfold atP
  rw [List.find?_cons]
  by_cases h : a.1 = n
  · simp [h]
  · simp [h]
theorem find_none' {l : List (Nat × Nat)} {n : Nat} (h : atP l n = none) : l.findIdx? (fun q => decide (q.1 = n)) = none := by
  induction l with
  | nil => rfl
  | cons a l ih =>
    rw [atP_cons] at h
    rw [List.findIdx?_cons]
    by_cases h1 : a.1 = n
    · rw [if_pos h1] at h; cases h
    · rw [if_neg h1] at h; simp [h1, ih h]
theorem putP_new {l : List (Nat × Nat)} {n v : Nat} (h : atP l n = none) : putP l n v = l ++ [(n, v)] := by
  unfold putP; rw [find_none' h]
theorem atP_snoc {l : List (Nat × Nat)} {n v m : Nat} (h : atP l n = none) : atP (l ++ [(n, v)]) m = if m = n then some v else atP l m := by
  induction l with
  | nil =>
    rw [List.nil_append, atP_cons, atP_nil]
    by_cases h1 : m = n
    · rw [if_pos h1, if_pos (by simp [h1])]
    · rw [if_neg h1, if_neg (by simpa using fun e => h1 e.symm)]
  | cons a l ih =>
    rw [atP_cons] at h
    by_cases h1 : a.1 = n
    · rw [if_pos h1] at h; cases h
    · rw [if_neg h1] at h
      rw [List.cons_append, atP_cons, atP_cons, ih h]
      by_cases h2 : a.1 = m
      · rw [if_pos h2, if_pos h2, if_neg (fun e => h1 (h2.trans e))]
      · rw [if_neg h2, if_neg h2]
theorem delP_cons (a : Nat × Nat) (l : List (Nat × Nat)) (n : Nat) : delP (a :: l) n = if a.1 = n then l else a :: delP l n := by
  unfold delP
  rw [List.findIdx?_cons]
  by_cases h : a.1 = n
  · simp [h]
  · simp only [h, decide_false, Bool.false_eq_true, if_false]
    cases l.findIdx? (fun q => decide (q.1 = n)) <;> rfl
theorem atP_none {l : List (Nat × Nat)} {n : Nat} (h : n ∉ l.map (·.1)) : atP l n = none := by
  induction l with
  | nil => rfl
  | cons a l ih =>
    rw [List.map_cons, List.mem_cons, not_or] at h
    rw [atP_cons, if_neg (fun e => h.1 e.symm), ih h.2]
theorem atP_del {l : List (Nat × Nat)} {n m : Nat} (hk : (l.map (·.1)).Nodup) : atP (delP l n) m = if m = n then none else atP l m := by
  induction l with
  | nil => split <;> rfl
  | cons a l ih =>
    rw [List.map_cons, List.nodup_cons] at hk
    rw [delP_cons]
    by_cases h1 : a.1 = n
    · rw [if_pos h1]
      by_cases h2 : m = n
      · rw [if_pos h2]; subst h1; subst h2; exact atP_none hk.1
      · rw [if_neg h2, atP_cons, if_neg (fun e => h2 (by rw [← e, h1]))]
    · rw [if_neg h1, atP_cons, ih hk.2, atP_cons]
      by_cases h2 : a.1 = m
      · rw [if_pos h2, if_pos h2, if_neg (fun e => h1 (h2.trans e))]
      · rw [if_neg h2, if_neg h2]
theorem delP_len {l : List (Nat × Nat)} {n v : Nat} (h : atP l n = some v) : (delP l n).length + 1 = l.length := by
  induction l with
  | nil => cases h
  | cons a l ih =>
    rw [atP_cons] at h
    rw [delP_cons]
    by_cases h1 : a.1 = n
    · rw [if_pos h1]; rfl
    · rw [if_neg h1] at h ⊢; rw [List.length_cons, List.length_cons, ih h]
theorem delP_sub (l : List (Nat × Nat)) (n : Nat) : (delP l n).Sublist l := by
  induction l with
  | nil => exact .refl _
  | cons a l ih =>
    rw [delP_cons]
    split
    · exact List.sublist_cons_self ..
    · exact ih.cons_cons a
/-- Some of the tasks change. -/
def updL (g : Tk → Tk) (l : List Nat) (tk : Nat → Tk) (q : Nat) : Tk := if q ∈ l then g (tk q) else tk q
def rdyG (ti : Bool) (x : Tk) : Tk := { x with st := 1, ps := 0, ti := ti }
def incG (x : Tk) : Tk := { x with ps := x.ps + 1 }
def runG (x : Tk) : Tk := { x with st := 2 }
def wtG (q u : Nat) (x : Tk) : Tk := { x with st := 3, qu := q, un := u }
theorem rdyL_eq (ti : Bool) (l : List Nat) : ∀ tk, rdyL ti tk l = updL (rdyG ti) l tk := by
  induction l with
  | nil => intro tk; rfl
  | cons a l ih =>
    intro tk
    show rdyL ti (rdyT ti tk a) l = _
    rw [ih]
    funext q
    unfold updL rdyT upd rdyG
    by_cases h1 : q ∈ l <;> by_cases h2 : q = a <;> simp [h1, h2]
theorem incL_eq (l : List Nat) : ∀ tk, l.Nodup → incL tk l = updL incG l tk := by
  induction l with
  | nil => intro tk _; rfl
  | cons a l ih =>
    intro tk hn
    rw [List.nodup_cons] at hn
    show incL (incT tk a) l = _
    rw [ih _ hn.2]
    funext q
    unfold updL incT upd incG
    by_cases h1 : q ∈ l
    · have h2 : q ≠ a := fun e => hn.1 (e ▸ h1)
      simp [h1, h2]
    · by_cases h2 : q = a
      · subst h2; simp [h1]
      · simp [h1, h2]
theorem upd_eq (g : Tk → Tk) (tk : Nat → Tk) (a : Nat) : upd tk a (g (tk a)) = updL g [a] tk := by
  funext q
  unfold updL upd
  by_cases h : q = a <;> simp [h]
/-- The state by numbers. -/
structure Ab where
  (pat cnt : Nat) (t : Nat → Option Tk) (row waits : List Nat) (runs : Option Nat) (now : Nat)
def Ab.get (A : Ab) (n : Nat) : Tk := (A.t n).getD default
def Ab.upd (A : Ab) (g : Tk → Tk) (l : List Nat) : Ab := { A with t := fun n => (A.t n).map fun x => if n ∈ l then g x else x }
def Sc.idq (S : Sc) (q : Nat) : Nat := (S.tk q).id
def Sc.all (S : Sc) : List Nat := S.row ++ (S.waits ++ S.runs.toList)
def Sc.abs (S : Sc) : Ab := ⟨S.pat, S.tm.length, fun n => (atP S.tm n).map S.tk, S.row.map S.idq, S.waits.map S.idq, S.runs.map S.idq, S.now⟩
structure Sc.good (S : Sc) (k : Nat) : Prop where
  pat : 1 ≤ S.pat ∧ S.pat ≤ 256
  map : ∀ n q, atP S.tm n = some q → q ∈ S.ps ∧ (S.tk q).id = n ∧ q ∈ S.all
  live : ∀ q ∈ S.all, atP S.tm (S.tk q).id = some q
  nd : S.all.Nodup
  cnt : S.all.length = S.tm.length
  tl : S.tm.length ≤ 256
  keys : (S.tm.map (·.1)).Nodup
  tv : ∀ q, (S.tk q).ps ≤ k
  srow : ∀ q ∈ S.row, (S.tk q).st = 1
  swt : ∀ q ∈ S.waits, (S.tk q).st = 3
  srn : ∀ q, S.runs = some q → (S.tk q).st = 2
theorem mem_all {S : Sc} {q : Nat} : q ∈ S.all ↔ q ∈ S.row ∨ q ∈ S.waits ∨ S.runs = some q := by
  unfold Sc.all
  rw [List.mem_append, List.mem_append, Option.mem_toList]
theorem Sc.good.mono {S : Sc} {k k' : Nat} (h : S.good k) (hk : k ≤ k') : S.good k' := ⟨h.pat, h.map, h.live, h.nd, h.cnt, h.tl, h.keys, fun q => Nat.le_trans (h.tv q) hk, h.srow, h.swt, h.srn⟩
theorem Sc.good.ok {S : Sc} {k : Nat} (h : S.good k) (hk : k < 1000000) : S.ok where
  pat := h.pat
  map := fun n q e => ⟨(h.map n q e).1, (h.map n q e).2.1⟩
  row := fun q hq => (h.map _ q (h.live q (mem_all.2 (.inl hq)))).1
  waits := fun q hq => (h.map _ q (h.live q (mem_all.2 (.inr (.inl hq))))).1
  runs := fun q hq => (h.map _ q (h.live q (mem_all.2 (.inr (.inr hq))))).1
  rl := by
    have h1 := h.cnt; have h2 := h.tl
    unfold Sc.all at h1
    rw [List.length_append, List.length_append] at h1
    omega
  tl := h.tl
  tv := fun q => by have := h.tv q; omega
theorem Sc.good.inj {S : Sc} {k : Nat} (h : S.good k) {q r : Nat} (h1 : q ∈ S.all) (h2 : r ∈ S.all) (e : (S.tk q).id = (S.tk r).id) : q = r := by
  have a := h.live q h1; have b := h.live r h2
  rw [e, b] at a
  exact (Option.some.inj a).symm
theorem Sc.good.t_at {S : Sc} {k : Nat} (h : S.good k) {q : Nat} (h1 : q ∈ S.all) : S.abs.t (S.idq q) = some (S.tk q) := by
  show (atP S.tm (S.tk q).id).map S.tk = _
  rw [h.live q h1]; rfl
theorem Sc.good.get_at {S : Sc} {k : Nat} (h : S.good k) {q : Nat} (h1 : q ∈ S.all) : S.abs.get (S.idq q) = S.tk q := by
  unfold Ab.get; rw [h.t_at h1]; rfl
theorem Sc.good.mem_map {S : Sc} {k : Nat} (h : S.good k) {q : Nat} {l : List Nat} (hl : ∀ r ∈ l, r ∈ S.all) (h1 : q ∈ S.all) : S.idq q ∈ l.map S.idq ↔ q ∈ l := by
  rw [List.mem_map]
  constructor
  · rintro ⟨r, hr, e⟩
    rw [h.inj h1 (hl r hr) e.symm]; exact hr
  · exact fun hq => ⟨q, hq, rfl⟩
/-- Tasks that change: seen by numbers. -/
theorem Sc.good.abs_t {S : Sc} {k : Nat} (h : S.good k) {g : Tk → Tk} {l : List Nat} (hl : ∀ r ∈ l, r ∈ S.all) : (fun n => (atP S.tm n).map (updL g l S.tk)) = (S.abs.upd g (l.map S.idq)).t := by
  funext n
  show _ = ((atP S.tm n).map S.tk).map _
  cases e : atP S.tm n with
  | none => rfl
  | some q =>
    obtain ⟨h1, h2, h3⟩ := h.map n q e
    show some _ = some _
    congr 1
    show updL g l S.tk q = if n ∈ l.map S.idq then g (S.tk q) else S.tk q
    unfold updL
    have := h.mem_map hl h3
    rw [show S.idq q = n from h2] at this
    by_cases hq : q ∈ l
    · rw [if_pos hq, if_pos (this.2 hq)]
    · rw [if_neg hq, if_neg (fun x => hq (this.1 x))]
theorem updL_id {g : Tk → Tk} (hg : ∀ x, (g x).id = x.id) (l : List Nat) (tk : Nat → Tk) (q : Nat) : (updL g l tk q).id = (tk q).id := by
  unfold updL; split
  · exact hg _
  · rfl
theorem rdyG_id (ti : Bool) (x : Tk) : (rdyG ti x).id = x.id := rfl
theorem incG_id (x : Tk) : (incG x).id = x.id := rfl
theorem runG_id (x : Tk) : (runG x).id = x.id := rfl
theorem wtG_id (q u : Nat) (x : Tk) : (wtG q u x).id = x.id := rfl
def newA (pat : Nat) : Ab := ⟨pat, 0, fun _ => none, [], [], none, 0⟩
theorem new_abs (pat : Nat) : (newS pat).abs = newA pat := rfl
theorem new_good {pat : Nat} (h1 : 1 ≤ pat) (h2 : pat ≤ 256) : (newS pat).good 0 where
  pat := ⟨h1, h2⟩
  map := fun n q e => by cases e
  live := fun q e => by cases e
  nd := List.nodup_nil
  cnt := rfl
  tl := Nat.zero_le _
  keys := List.nodup_nil
  tv := fun q => Nat.le_refl _
  srow := fun q e => by cases e
  swt := fun q e => by cases e
  srn := fun q e => by cases e

end Go.Proofs.Ytcicmlmfnjkekaa


namespace Go.Proofs.Ytcicmlmfnjkekaa
open Go Pw
set_option maxRecDepth 20000
set_option maxHeartbeats 4000000
set_option synthInstance.maxHeartbeats 400000
set_option synthInstance.maxSize 4000
set_option maxHeartbeats 1000000

def Ab.yield (A : Ab) : Ab × Nat := match A.runs with
  | none => (A, 3)
  | some t => ({ A.upd (rdyG false) [t] with runs := none, row := A.row ++ [t] }, 0)
def Ab.wait (A : Ab) (q u : Nat) : Ab × Nat := match A.runs with
  | none => (A, 3)
  | some t => if badW A.now u then (A, 2) else ({ A.upd (wtG q u) [t] with runs := none, waits := A.waits ++ [t] }, 0)
def Ab.done (A : Ab) : Ab × Nat := match A.runs with
  | none => (A, 3)
  | some t => ({ A with cnt := A.cnt - 1, t := fun n => if n = t then none else A.t n, runs := none }, 0)
def Ab.spawn (A : Ab) (n : Nat) : Ab × Nat := if (A.t n).isSome then (A, 9) else if 256 ≤ A.cnt then (A, 6) else ({ A with cnt := A.cnt + 1, t := fun m => if m = n then some ⟨n, 1, 0, 0, 0, false⟩ else A.t m, row := A.row ++ [n] }, 0)
def Ab.pick (A : Ab) (k : Nat) : Ab × Nat × Nat := match A.runs with
  | some _ => (A, 0, 3)
  | none => if A.row = [] then (A, 0, 5) else
    ({ (A.upd incG (A.row.eraseIdx (pickAt A.pat A.get A.row k))).upd runG [gt A.row (pickAt A.pat A.get A.row k)] with runs := some (gt A.row (pickAt A.pat A.get A.row k)), row := A.row.eraseIdx (pickAt A.pat A.get A.row k) }, gt A.row (pickAt A.pat A.get A.row k), 0)
def Ab.wakeR (A : Ab) (q : Nat) (most : Int) : List Nat × List Nat × Nat := runF (stepW q most A.get) 0 A.waits
def Ab.wake (A : Ab) (q : Nat) (most : Int) : Ab := { A.upd (rdyG false) (A.wakeR q most).1 with waits := (A.wakeR q most).2.1, row := A.row ++ (A.wakeR q most).1 }
def Ab.tickR (A : Ab) (t : Nat) : List Nat × List Nat × Nat := runF (stepT t A.get) 0 A.waits
def Ab.tickL (A : Ab) (t : Nat) : List Nat := isort (fun q => (A.get q).un) (A.tickR t).1
def Ab.tick (A : Ab) (t : Nat) : Ab × Nat := if t < A.now ∨ 4611686018427387904 ≤ t then (A, 2) else ({ A.upd (rdyG true) (A.tickL t) with now := t, waits := (A.tickR t).2.1, row := A.row ++ A.tickL t }, 0)
def Ab.state (A : Ab) (n : Nat) : Nat := match A.t n with | none => 0 | some x => x.st
def Ab.why (A : Ab) (n : Nat) : Nat := match A.t n with | none => 5 | some x => if x.ti then 50 else 0
theorem Ab.ext' {p c c' n : Nat} {t t' : Nat → Option Tk} {r r' w w' : List Nat} {u u' : Option Nat} (e1 : c = c') (e2 : t = t') (e3 : r = r') (e4 : w = w') (e5 : u = u') : Ab.mk p c t r w u n = Ab.mk p c' t' r' w' u' n := by
  subst e1; subst e2; subst e3; subst e4; subst e5; rfl
theorem state_abs (S : Sc) (n : Nat) : S.state n = S.abs.state n := by
  unfold Sc.state Ab.state
  show _ = match (atP S.tm n).map S.tk with | none => 0 | some x => x.st
  cases atP S.tm n <;> rfl
theorem why_abs (S : Sc) (n : Nat) : S.why n = S.abs.why n := by
  unfold Sc.why Ab.why
  show _ = match (atP S.tm n).map S.tk with | none => 5 | some x => if x.ti then 50 else 0
  cases atP S.tm n <;> rfl
theorem Sc.good.dj {S : Sc} {k : Nat} (h : S.good k) : (∀ q ∈ S.row, q ∉ S.waits ∧ S.runs ≠ some q) ∧ (∀ q ∈ S.waits, S.runs ≠ some q) := by
  have := h.nd
  unfold Sc.all at this
  rw [List.nodup_append] at this
  obtain ⟨_, h2, h3⟩ := this
  rw [List.nodup_append] at h2
  refine ⟨fun q hq => ⟨fun hw => h3 q hq q (List.mem_append_left _ hw) rfl, fun hr => h3 q hq q (List.mem_append_right _ (Option.mem_toList.2 hr)) rfl⟩, fun q hq hr => h2.2.2 q hq q (Option.mem_toList.2 hr) rfl⟩
/-- The same tasks, in other places. -/
theorem Sc.good.move {S S' : Sc} {k k' : Nat} (h : S.good k) (hpat : S'.pat = S.pat) (htm : S'.tm = S.tm) (hps : S'.ps = S.ps) (hid : ∀ q, (S'.tk q).id = (S.tk q).id) (hall : S'.all.Perm S.all) (htv : ∀ q, (S'.tk q).ps ≤ k') (h1 : ∀ q ∈ S'.row, (S'.tk q).st = 1) (h2 : ∀ q ∈ S'.waits, (S'.tk q).st = 3) (h3 : ∀ q, S'.runs = some q → (S'.tk q).st = 2) : S'.good k' where
  pat := by rw [hpat]; exact h.pat
  map := fun n q e => by
    rw [htm] at e
    obtain ⟨a, b, c⟩ := h.map n q e
    exact ⟨by rw [hps]; exact a, by rw [hid]; exact b, hall.mem_iff.2 c⟩
  live := fun q hq => by rw [htm, hid]; exact h.live q (hall.mem_iff.1 hq)
  nd := hall.nodup_iff.2 h.nd
  cnt := by rw [hall.length_eq, htm]; exact h.cnt
  tl := by rw [htm]; exact h.tl
  keys := by rw [htm]; exact h.keys
  tv := htv
  srow := h1
  swt := h2
  srn := h3
theorem idq_eq {S S' : Sc} (hid : ∀ q, (S'.tk q).id = (S.tk q).id) : S'.idq = S.idq := funext hid
theorem rdyG_ps (ti : Bool) (l : List Nat) (tk : Nat → Tk) (q k : Nat) (h : (tk q).ps ≤ k) : (updL (rdyG ti) l tk q).ps ≤ k := by
  unfold updL; split
  · exact Nat.zero_le _
  · exact h
theorem updL_in {g : Tk → Tk} {l : List Nat} {tk : Nat → Tk} {q : Nat} (h : q ∈ l) : updL g l tk q = g (tk q) := if_pos h
theorem updL_out {g : Tk → Tk} {l : List Nat} {tk : Nat → Tk} {q : Nat} (h : q ∉ l) : updL g l tk q = tk q := if_neg h
theorem yield_sim {S : Sc} {k : Nat} (h : S.good k) : S.yield.1.good k ∧ S.yield.1.abs = S.abs.yield.1 ∧ S.yield.2 = S.abs.yield.2 := by
  unfold Sc.yield Ab.yield
  show _ ∧ _ = (match S.runs.map S.idq with | none => _ | some t => _ : Ab × Nat).1 ∧ _ = (match S.runs.map S.idq with | none => _ | some t => _ : Ab × Nat).2
  cases hr : S.runs with
  | none => exact ⟨h, rfl, rfl⟩
  | some t =>
    dsimp only
    have ht : t ∈ S.all := mem_all.2 (.inr (.inr hr))
    have hid : ∀ q, (rdyL false S.tk [t] q).id = (S.tk q).id := fun q => by rw [rdyL_eq]; exact updL_id (rdyG_id _) _ _ _
    refine ⟨h.move rfl rfl rfl hid ?_ (fun q => by rw [rdyL_eq]; exact rdyG_ps _ _ _ _ _ (h.tv q)) ?_ ?_ (fun q e => by cases e), ?_, rfl⟩
    · show (((S.row ++ [t]) ++ (S.waits ++ [])).Perm (S.row ++ (S.waits ++ S.runs.toList)))
      rw [hr, List.append_assoc, List.append_nil]
      exact List.Perm.append_left _ List.perm_append_comm
    · intro q hq
      show (rdyL false S.tk [t] q).st = 1
      rw [rdyL_eq]
      rcases List.mem_append.1 hq with hq | hq
      · by_cases e : q ∈ [t]
        · rw [updL_in e]; rfl
        · rw [updL_out e]; exact h.srow q hq
      · rw [updL_in hq]; rfl
    · intro q hq
      show (rdyL false S.tk [t] q).st = 3
      rw [rdyL_eq, updL_out (fun e => h.dj.2 q hq (by rw [hr, List.mem_singleton.1 e]))]
      exact h.swt q hq
    · show Ab.mk _ _ _ _ _ _ _ = Ab.mk _ _ _ _ _ _ _
      rw [idq_eq (S := S) hid, rdyL_eq, h.abs_t (l := [t]) (fun r hr' => by rw [List.mem_singleton.1 hr']; exact ht), List.map_append]
      rfl
theorem wait_sim {S : Sc} {k : Nat} (h : S.good k) (qq u : Nat) : (S.wait qq u).1.good k ∧ (S.wait qq u).1.abs = (S.abs.wait qq u).1 ∧ (S.wait qq u).2 = (S.abs.wait qq u).2 := by
  unfold Sc.wait Ab.wait
  show _ ∧ _ = (match S.runs.map S.idq with | none => _ | some t => _ : Ab × Nat).1 ∧ _ = (match S.runs.map S.idq with | none => _ | some t => _ : Ab × Nat).2
  cases hr : S.runs with
  | none => exact ⟨h, rfl, rfl⟩
  | some t =>
    show _ ∧ _ = (if badW S.now u then _ else _ : Ab × Nat).1 ∧ _ = (if badW S.now u then _ else _ : Ab × Nat).2
    dsimp only
    by_cases hb : badW S.now u
    · rw [if_pos hb, if_pos hb]; exact ⟨h, rfl, rfl⟩
    rw [if_neg hb, if_neg hb]
    have ht : t ∈ S.all := mem_all.2 (.inr (.inr hr))
    have he : waitT S.tk t qq u = updL (wtG qq u) [t] S.tk := upd_eq (wtG qq u) S.tk t
    have hid : ∀ q, (waitT S.tk t qq u q).id = (S.tk q).id := fun q => by rw [he]; exact updL_id (wtG_id _ _) _ _ _
    refine ⟨h.move rfl rfl rfl hid ?_ (fun q => ?_) ?_ ?_ (fun q e => by cases e), ?_, rfl⟩
    · show ((S.row ++ ((S.waits ++ [t]) ++ [])).Perm (S.row ++ (S.waits ++ S.runs.toList)))
      rw [hr, List.append_nil]
      exact .refl _
    · show (waitT S.tk t qq u q).ps ≤ k
      rw [he]
      by_cases e : q ∈ [t]
      · rw [updL_in e]; exact h.tv q
      · rw [updL_out e]; exact h.tv q
    · intro q hq
      show (waitT S.tk t qq u q).st = 1
      rw [he, updL_out (fun e => (h.dj.1 q hq).2 (by rw [hr, List.mem_singleton.1 e]))]
      exact h.srow q hq
    · intro q hq
      show (waitT S.tk t qq u q).st = 3
      rw [he]
      rcases List.mem_append.1 hq with hq | hq
      · by_cases e : q ∈ [t]
        · rw [updL_in e]; rfl
        · rw [updL_out e]; exact h.swt q hq
      · rw [updL_in hq]; rfl
    · show Ab.mk _ _ _ _ _ _ _ = Ab.mk _ _ _ _ _ _ _
      rw [idq_eq (S := S) hid, he, h.abs_t (l := [t]) (fun r hr' => by rw [List.mem_singleton.1 hr']; exact ht), List.map_append]
      rfl
theorem done_sim {S : Sc} {k : Nat} (h : S.good k) : S.done.1.good k ∧ S.done.1.abs = S.abs.done.1 ∧ S.done.2 = S.abs.done.2 := by
  unfold Sc.done Ab.done
  show _ ∧ _ = (match S.runs.map S.idq with | none => _ | some t => _ : Ab × Nat).1 ∧ _ = (match S.runs.map S.idq with | none => _ | some t => _ : Ab × Nat).2
  cases hr : S.runs with
  | none => exact ⟨h, rfl, rfl⟩
  | some t =>
    dsimp only
    have ht : t ∈ S.all := mem_all.2 (.inr (.inr hr))
    have hl := h.live t ht
    have hlen := delP_len hl
    have hall : S.all = (S.row ++ S.waits) ++ [t] := by unfold Sc.all; rw [hr, List.append_assoc]; rfl
    have hall' : ∀ q, q ∈ S.row ++ (S.waits ++ []) ↔ q ∈ S.row ∨ q ∈ S.waits := fun q => by rw [List.append_nil, List.mem_append]
    have hne : ∀ q, q ∈ S.row ∨ q ∈ S.waits → q ≠ t := fun q hq e => by
      rcases hq with hq | hq
      · exact (h.dj.1 q hq).2 (by rw [hr, e])
      · exact h.dj.2 q hq (by rw [hr, e])
    have hin : ∀ q, q ∈ S.row ∨ q ∈ S.waits → q ∈ S.all := fun q hq => mem_all.2 (by rcases hq with hq | hq; exact .inl hq; exact .inr (.inl hq))
    refine ⟨⟨h.pat, ?_, ?_, ?_, ?_, ?_, ?_, h.tv, h.srow, h.swt, fun q e => by cases e⟩, ?_, rfl⟩
    · intro n q e
      have e' : atP (delP S.tm (S.tk t).id) n = some q := e
      rw [atP_del h.keys] at e'
      by_cases hn : n = (S.tk t).id
      · rw [if_pos hn] at e'; cases e'
      · rw [if_neg hn] at e'
        obtain ⟨a, b, c⟩ := h.map n q e'
        refine ⟨a, b, (hall' q).2 ?_⟩
        rcases mem_all.1 c with c | c | c
        · exact .inl c
        · exact .inr c
        · rw [hr] at c; cases c; exact absurd b.symm hn
    · intro q hq
      have hq' := (hall' q).1 hq
      show atP (delP S.tm (S.tk t).id) (S.tk q).id = some q
      rw [atP_del h.keys, if_neg (fun e => hne q hq' (h.inj (hin q hq') ht e))]
      exact h.live q (hin q hq')
    · show (S.row ++ (S.waits ++ [])).Nodup
      have := h.nd
      rw [hall] at this
      rw [List.append_nil]
      exact this.sublist (List.sublist_append_left _ _)
    · show (S.row ++ (S.waits ++ [])).length = (delP S.tm (S.tk t).id).length
      have := h.cnt
      rw [hall] at this
      rw [List.append_nil]
      rw [List.length_append, List.length_singleton] at this
      omega
    · show (delP S.tm (S.tk t).id).length ≤ 256
      have := h.tl
      omega
    · exact h.keys.sublist ((delP_sub _ _).map _)
    · show Ab.mk _ _ _ _ _ _ _ = Ab.mk _ _ _ _ _ _ _
      have e1 : (delP S.tm (S.tk t).id).length = S.tm.length - 1 := by omega
      have e2 : (fun n => (atP (delP S.tm (S.tk t).id) n).map S.tk) = fun n => if n = S.idq t then none else (atP S.tm n).map S.tk := by
        funext n
        rw [atP_del h.keys]
        show _ = if n = (S.tk t).id then _ else _
        split <;> rfl
      exact Ab.ext' e1 e2 rfl rfl rfl
theorem spawn_sim {S : Sc} {k : Nat} (h : S.good k) (b n : Nat) (hb : b ∉ S.ps) : (S.spawn b n).1.good k ∧ (S.spawn b n).1.abs = (S.abs.spawn n).1 ∧ (S.spawn b n).2 = (S.abs.spawn n).2 := by
  unfold Sc.spawn Ab.spawn
  have e0 : (S.abs.t n).isSome = (atP S.tm n).isSome := by show ((atP S.tm n).map S.tk).isSome = _; cases atP S.tm n <;> rfl
  rw [e0]
  show _ ∧ _ = (if _ then _ else if 256 ≤ S.tm.length then _ else _ : Ab × Nat).1 ∧ _ = (if _ then _ else if 256 ≤ S.tm.length then _ else _ : Ab × Nat).2
  by_cases h1 : (atP S.tm n).isSome = true
  · rw [if_pos h1, if_pos h1]; exact ⟨h, rfl, rfl⟩
  rw [if_neg h1, if_neg h1]
  by_cases h2 : 256 ≤ S.tm.length
  · rw [if_pos h2, if_pos h2]; exact ⟨h, rfl, rfl⟩
  rw [if_neg h2, if_neg h2]
  have hn : atP S.tm n = none := by cases e : atP S.tm n with | none => rfl | some q => rw [e] at h1; exact absurd rfl h1
  have hps : ∀ q ∈ S.all, q ∈ S.ps := fun q hq => (h.map _ q (h.live q hq)).1
  have hba : b ∉ S.all := fun e => hb (hps b e)
  have etk : ∀ q, rdyL false (upd S.tk b ⟨n, 0, 0, 0, 0, false⟩) [b] q = if q = b then ⟨n, 1, 0, 0, 0, false⟩ else S.tk q := fun q => by
    rw [rdyL_eq]
    unfold updL upd rdyG
    by_cases e : q = b <;> simp [e]
  have hat : ∀ m, atP (S.tm ++ [(n, b)]) m = if m = n then some b else atP S.tm m := fun m => atP_snoc hn
  have hne : ∀ q ∈ S.all, q ≠ b := fun q hq e => hba (e ▸ hq)
  have hper : ((S.row ++ [b]) ++ (S.waits ++ S.runs.toList)).Perm (b :: S.all) := by
    rw [List.append_assoc]
    exact List.perm_middle
  rw [putP_new hn]
  refine ⟨⟨h.pat, ?_, ?_, ?_, ?_, ?_, ?_, ?_, ?_, ?_, ?_⟩, ?_, rfl⟩
  · intro m q e
    have e' : atP (S.tm ++ [(n, b)]) m = some q := e
    rw [hat] at e'
    by_cases hm : m = n
    · rw [if_pos hm] at e'; cases e'
      refine ⟨List.mem_append_right _ (List.mem_singleton.2 rfl), ?_, hper.mem_iff.2 (List.mem_cons_self ..)⟩
      show (rdyL false _ [b] b).id = m
      rw [etk, if_pos rfl, hm]
    · rw [if_neg hm] at e'
      obtain ⟨a1, a2, a3⟩ := h.map m q e'
      refine ⟨List.mem_append_left _ a1, ?_, hper.mem_iff.2 (List.mem_cons_of_mem _ a3)⟩
      show (rdyL false _ [b] q).id = m
      rw [etk, if_neg (hne q a3)]; exact a2
  · intro q hq
    show atP (S.tm ++ [(n, b)]) (rdyL false _ [b] q).id = some q
    rw [etk, hat]
    rcases List.mem_cons.1 (hper.mem_iff.1 hq) with rfl | hq
    · rw [if_pos rfl, if_pos rfl]
    · rw [if_neg (hne q hq)]
      have hl := h.live q hq
      rw [if_neg (fun e => by rw [e, hn] at hl; cases hl)]; exact hl
  · exact hper.nodup_iff.2 (List.nodup_cons.2 ⟨hba, h.nd⟩)
  · show ((S.row ++ [b]) ++ (S.waits ++ S.runs.toList)).length = (S.tm ++ [(n, b)]).length
    rw [hper.length_eq, List.length_cons, h.cnt, List.length_append]; rfl
  · show (S.tm ++ [(n, b)]).length ≤ 256
    rw [List.length_append, List.length_singleton]; omega
  · show ((S.tm ++ [(n, b)]).map (·.1)).Nodup
    rw [List.map_append, List.nodup_append]
    refine ⟨h.keys, by simp, ?_⟩
    intro x hx y hy
    have : y = n := by simpa using hy
    subst this
    intro e
    subst e
    have : ∀ (l : List (Nat × Nat)), x ∈ l.map (·.1) → atP l x ≠ none := fun l => by
      induction l with
      | nil => intro h; cases h
      | cons a l ih =>
        intro hx e
        rw [atP_cons] at e
        by_cases h1 : a.1 = x
        · rw [if_pos h1] at e; cases e
        · rw [if_neg h1] at e
          rw [List.map_cons, List.mem_cons] at hx
          rcases hx with hx | hx
          · exact h1 hx.symm
          · exact ih hx e
    exact this S.tm hx hn
  · intro q
    show (rdyL false _ [b] q).ps ≤ k
    rw [etk]; split
    · exact Nat.zero_le _
    · exact h.tv q
  · intro q hq
    show (rdyL false _ [b] q).st = 1
    rw [etk]
    rcases List.mem_append.1 hq with hq | hq
    · split
      · rfl
      · exact h.srow q hq
    · rw [if_pos (List.mem_singleton.1 hq)]
  · intro q hq
    show (rdyL false _ [b] q).st = 3
    rw [etk, if_neg (hne q (mem_all.2 (.inr (.inl hq))))]; exact h.swt q hq
  · intro q hq
    show (rdyL false _ [b] q).st = 2
    rw [etk, if_neg (hne q (mem_all.2 (.inr (.inr hq))))]; exact h.srn q hq
  · have hidq : ∀ q ∈ S.all, (rdyL false (upd S.tk b ⟨n, 0, 0, 0, 0, false⟩) [b] q).id = S.idq q := fun q hq => by rw [etk, if_neg (hne q hq)]; rfl
    have e1 : (S.tm ++ [(n, b)]).length = S.tm.length + 1 := by rw [List.length_append]; rfl
    have e2 : (fun m => (atP (S.tm ++ [(n, b)]) m).map (rdyL false (upd S.tk b ⟨n, 0, 0, 0, 0, false⟩) [b])) = fun m => if m = n then some ⟨n, 1, 0, 0, 0, false⟩ else (atP S.tm m).map S.tk := by
      funext m
      rw [hat]
      by_cases hm : m = n
      · rw [if_pos hm, if_pos hm]; show some _ = some _; rw [etk, if_pos rfl]
      · rw [if_neg hm, if_neg hm]
        cases e : atP S.tm m with
        | none => rfl
        | some q =>
          show some _ = some _
          rw [etk, if_neg (hne q (h.map m q e).2.2)]
    have e3 : (S.row ++ [b]).map (fun q => (rdyL false (upd S.tk b ⟨n, 0, 0, 0, 0, false⟩) [b] q).id) = S.row.map S.idq ++ [n] := by
      rw [List.map_append]
      congr 1
      · exact List.map_congr_left fun q hq => hidq q (mem_all.2 (.inl hq))
      · exact congrArg (fun x : Tk => [x.id]) ((etk b).trans (if_pos rfl))
    have e4 : S.waits.map (fun q => (rdyL false (upd S.tk b ⟨n, 0, 0, 0, 0, false⟩) [b] q).id) = S.waits.map S.idq := List.map_congr_left fun q hq => hidq q (mem_all.2 (.inr (.inl hq)))
    have e5 : S.runs.map (fun q => (rdyL false (upd S.tk b ⟨n, 0, 0, 0, 0, false⟩) [b] q).id) = S.runs.map S.idq := by
      cases hr : S.runs with
      | none => rfl
      | some q => exact congrArg some (hidq q (mem_all.2 (.inr (.inr hr))))
    show Ab.mk _ _ _ _ _ _ _ = Ab.mk _ _ _ _ _ _ _
    exact Ab.ext' e1 e2 e3 e4 e5

end Go.Proofs.Ytcicmlmfnjkekaa


namespace Go.Proofs.Ytcicmlmfnjkekaa
open Go Pw
set_option maxRecDepth 20000
set_option maxHeartbeats 4000000
set_option synthInstance.maxHeartbeats 400000
set_option synthInstance.maxSize 4000
set_option maxHeartbeats 1000000

theorem Sc.good.abs_t2 {S : Sc} {k : Nat} (h : S.good k) {g : Tk → Tk} {l : List Nat} {tk' : Nat → Tk} (hl : ∀ r ∈ l, r ∈ S.all) : (fun n => (atP S.tm n).map (updL g l tk')) = fun n => ((atP S.tm n).map tk').map fun x => if n ∈ l.map S.idq then g x else x := by
  funext n
  cases e : atP S.tm n with
  | none => rfl
  | some q =>
    obtain ⟨h1, h2, h3⟩ := h.map n q e
    show some _ = some _
    congr 1
    show updL g l tk' q = if n ∈ l.map S.idq then g (tk' q) else tk' q
    unfold updL
    have := h.mem_map hl h3
    rw [show S.idq q = n from h2] at this
    by_cases hq : q ∈ l
    · rw [if_pos hq, if_pos (this.2 hq)]
    · rw [if_neg hq, if_neg (fun x => hq (this.1 x))]
theorem findIdx_map' {f : Nat → Nat} {p p' : Nat → Bool} : ∀ (l : List Nat), (∀ q ∈ l, p q = p' (f q)) → (l.map f).findIdx p' = l.findIdx p
  | [], _ => rfl
  | a :: l, h => by
    rw [List.map_cons, List.findIdx_cons, List.findIdx_cons, ← h a (List.mem_cons_self ..), findIdx_map' l (fun q hq => h q (List.mem_cons_of_mem _ hq))]
theorem gt_map' {f : Nat → Nat} {l : List Nat} {i : Nat} (h : i < l.length) : gt (l.map f) i = f (gt l i) := by
  unfold gt
  rw [List.getD_eq_getElem?_getD, List.getD_eq_getElem?_getD, List.getElem?_map, List.getElem?_eq_getElem h]; rfl
theorem erase_map' {f : Nat → Nat} : ∀ (l : List Nat) (i : Nat), (l.map f).eraseIdx i = (l.eraseIdx i).map f
  | [], _ => rfl
  | _ :: _, 0 => rfl
  | a :: l, i + 1 => by
    rw [List.map_cons, List.eraseIdx_cons_succ, List.eraseIdx_cons_succ, List.map_cons, erase_map' l i]
theorem gt_perm : ∀ {l : List Nat} {i : Nat}, i < l.length → (gt l i :: l.eraseIdx i).Perm l
  | [], _, h => absurd h (Nat.not_lt_zero _)
  | _ :: _, 0, _ => .refl _
  | a :: l, i + 1, h => by
    rw [List.eraseIdx_cons_succ]
    exact (List.Perm.swap _ _ _).trans ((gt_perm (l := l) (i := i) (Nat.lt_of_succ_lt_succ h)).cons a)
theorem pickAt_map {pat : Nat} {tk tk' : Nat → Tk} {f : Nat → Nat} {l : List Nat} {n : Nat} (h : ∀ q ∈ l, tk' (f q) = tk q) : pickAt pat tk' (l.map f) n = pickAt pat tk l n := by
  unfold pickAt
  rw [findIdx_map' (p := late pat tk) (p' := late pat tk') l (fun q hq => by unfold late; rw [h q hq]), List.length_map]
theorem pickAt_lt {pat : Nat} {tk : Nat → Tk} {l : List Nat} {n : Nat} (h : l ≠ []) : pickAt pat tk l n < l.length := by
  unfold pickAt
  have : 0 < l.length := by cases l with | nil => exact absurd rfl h | cons => exact Nat.succ_pos _
  split
  · assumption
  · exact Nat.mod_lt _ this
theorem pick_sim {S : Sc} {k : Nat} (h : S.good k) (n : Nat) : (S.pick n).1.good (k + 1) ∧ (S.pick n).1.abs = (S.abs.pick n).1 ∧ (S.pick n).2 = (S.abs.pick n).2 := by
  unfold Sc.pick Ab.pick
  show _ ∧ _ = (match S.runs.map S.idq with | some _ => _ | none => _ : Ab × Nat × Nat).1 ∧ _ = (match S.runs.map S.idq with | some _ => _ | none => _ : Ab × Nat × Nat).2
  cases hr : S.runs with
  | some t => exact ⟨h.mono (Nat.le_succ _), rfl, rfl⟩
  | none =>
    dsimp only [Option.map]
    by_cases hne : S.row = []
    · rw [if_pos hne, if_pos (show S.abs.row = [] by show S.row.map S.idq = []; rw [hne]; rfl)]
      exact ⟨h.mono (Nat.le_succ _), rfl, rfl⟩
    rw [if_neg hne, if_neg (show ¬ S.abs.row = [] by show ¬ S.row.map S.idq = []; simpa using hne)]
    have hrow : ∀ q ∈ S.row, q ∈ S.all := fun q hq => mem_all.2 (.inl hq)
    have hat : pickAt S.abs.pat S.abs.get S.abs.row n = pickAt S.pat S.tk S.row n := pickAt_map (fun q hq => h.get_at (hrow q hq))
    rw [hat]
    have hi := pickAt_lt (pat := S.pat) (tk := S.tk) (n := n) hne
    generalize pickAt S.pat S.tk S.row n = i at hi
    dsimp only
    have hp := gt_perm hi
    have hnr : S.row.Nodup := h.nd.sublist (List.sublist_append_left _ _)
    have hn2 := hp.nodup_iff.2 hnr
    rw [List.nodup_cons] at hn2
    have hgt : gt S.row i ∈ S.row := hp.mem_iff.1 (List.mem_cons_self ..)
    have hsub : ∀ q ∈ S.row.eraseIdx i, q ∈ S.row := fun q hq => hp.mem_iff.1 (List.mem_cons_of_mem _ hq)
    have he : pickT S.tk S.row i = updL runG [gt S.row i] (updL incG (S.row.eraseIdx i) S.tk) := by
      unfold pickT
      rw [incL_eq _ _ hn2.2]
      exact upd_eq runG _ _
    have hid : ∀ q, (pickT S.tk S.row i q).id = (S.tk q).id := fun q => by rw [he, updL_id runG_id, updL_id incG_id]
    have hgr : gt S.abs.row i = S.idq (gt S.row i) := gt_map' hi
    have her : S.abs.row.eraseIdx i = (S.row.eraseIdx i).map S.idq := erase_map' _ _
    refine ⟨h.move rfl rfl rfl hid ?_ (fun q => ?_) ?_ ?_ ?_, ?_, ?_⟩
    · show ((S.row.eraseIdx i ++ (S.waits ++ [gt S.row i])).Perm (S.row ++ (S.waits ++ S.runs.toList)))
      rw [hr]
      show (S.row.eraseIdx i ++ (S.waits ++ [gt S.row i])).Perm (S.row ++ (S.waits ++ []))
      rw [List.append_nil]
      refine List.Perm.trans ?_ (hp.append_right S.waits)
      rw [← List.append_assoc, List.cons_append]
      exact List.perm_append_comm
    · show (pickT S.tk S.row i q).ps ≤ k + 1
      rw [he]
      have h1 := h.tv q
      unfold updL
      split <;> split <;> (try show (S.tk q).ps + 1 ≤ k + 1) <;> (try show (S.tk q).ps ≤ k + 1) <;> omega
    · intro q hq
      show (pickT S.tk S.row i q).st = 1
      rw [he, updL_out (fun e => hn2.1 (by rw [List.mem_singleton] at e; rw [← e]; exact hq)), updL_in hq]
      exact h.srow q (hsub q hq)
    · intro q hq
      have hq' : q ∈ S.waits := hq
      show (pickT S.tk S.row i q).st = 3
      rw [he, updL_out (fun e => (h.dj.1 _ hgt).1 (by rw [List.mem_singleton] at e; rw [← e]; exact hq')), updL_out (fun e => (h.dj.1 q (hsub q e)).1 hq')]
      exact h.swt q hq'
    · intro q hq
      have e : q = gt S.row i := (Option.some.inj hq).symm
      show (pickT S.tk S.row i q).st = 2
      rw [he, updL_in (List.mem_singleton.2 e)]; rfl
    · rw [hgr, her]
      show Ab.mk _ _ _ _ _ _ _ = Ab.mk _ _ _ _ _ _ _
      refine Ab.ext' rfl ?_ ?_ ?_ ?_
      · show (fun n => (atP S.tm n).map (pickT S.tk S.row i)) = _
        rw [he, h.abs_t2 (fun r hr' => by rw [List.mem_singleton.1 hr']; exact hrow _ hgt)]
        funext m
        show ((atP S.tm m).map (updL incG (S.row.eraseIdx i) S.tk)).map _ = (((atP S.tm m).map S.tk).map _).map _
        have := congrFun (h.abs_t2 (g := incG) (l := S.row.eraseIdx i) (tk' := S.tk) (fun r hr' => hrow r (hsub r hr'))) m
        rw [show (atP S.tm m).map (updL incG (S.row.eraseIdx i) S.tk) = _ from this]
        rfl
      · show (S.row.eraseIdx i).map (fun q => (pickT S.tk S.row i q).id) = _
        exact List.map_congr_left fun q _ => hid q
      · show S.waits.map (fun q => (pickT S.tk S.row i q).id) = _
        exact List.map_congr_left fun q _ => hid q
      · exact congrArg some (hid _)
    · rw [hgr]
      exact congrArg (fun x : Nat => (x, 0)) (hid _)
theorem addIf_map (c : Bool) (f : Nat → Nat) (l : List Nat) (t : Nat) : addIf c (l.map f) (f t) = (addIf c l t).map f := by
  unfold addIf; cases c <;> simp
theorem runF_map {f : Nat → Nat} {st st' : Nat → Nat → Bool × Nat} : ∀ (l : List Nat) (z : List Nat × List Nat × Nat), (∀ q ∈ l, ∀ n, st n q = st' n (f q)) →
    (l.map f).foldl (stpF st') (z.1.map f, z.2.1.map f, z.2.2) = ((l.foldl (stpF st) z).1.map f, (l.foldl (stpF st) z).2.1.map f, (l.foldl (stpF st) z).2.2)
  | [], _, _ => rfl
  | t :: l, z, h => by
    rw [List.map_cons, List.foldl_cons, List.foldl_cons, ← runF_map l _ (fun q hq => h q (List.mem_cons_of_mem _ hq))]
    congr 1
    unfold stpF
    dsimp only
    rw [← h t (List.mem_cons_self ..), addIf_map, addIf_map]
theorem runF_abs {f : Nat → Nat} {st st' : Nat → Nat → Bool × Nat} {n : Nat} {l : List Nat} (h : ∀ q ∈ l, ∀ n, st n q = st' n (f q)) : runF st' n (l.map f) = ((runF st n l).1.map f, (runF st n l).2.1.map f, (runF st n l).2.2) := by
  unfold runF
  exact runF_map l ([], [], n) h
theorem insR_map {f : Nat → Nat} {key key' : Nat → Nat} {x : Nat} (hx : key x = key' (f x)) : ∀ l, (∀ q ∈ l, key q = key' (f q)) → insR key' (f x) (l.map f) = (insR key x l).map f
  | [], _ => rfl
  | y :: l, h => by
    rw [List.map_cons, insR, insR, ← h y (List.mem_cons_self ..), ← hx, insR_map hx l (fun q hq => h q (List.mem_cons_of_mem _ hq))]
    split <;> rfl
theorem insA_map {f : Nat → Nat} {key key' : Nat → Nat} {x : Nat} (hx : key x = key' (f x)) (l : List Nat) (h : ∀ q ∈ l, key q = key' (f q)) : insA key' (l.map f) (f x) = (insA key l x).map f := by
  unfold insA
  rw [← List.map_reverse, insR_map hx _ (fun q hq => h q (List.mem_reverse.1 hq)), List.map_reverse]
theorem foldl_insA_map {f : Nat → Nat} {key key' : Nat → Nat} : ∀ (l A : List Nat), (∀ q ∈ l, key q = key' (f q)) → (∀ q ∈ A, key q = key' (f q)) → (l.map f).foldl (insA key') (A.map f) = (l.foldl (insA key) A).map f
  | [], _, _, _ => rfl
  | x :: l, A, h, hA => by
    have hx := h x (List.mem_cons_self ..)
    rw [List.map_cons, List.foldl_cons, List.foldl_cons, insA_map hx A hA]
    refine foldl_insA_map l (insA key A x) (fun q hq => h q (List.mem_cons_of_mem _ hq)) (fun q hq => ?_)
    rcases List.mem_append.1 ((insA_perm key A x).mem_iff.1 hq) with hq | hq
    · exact hA q hq
    · rw [List.mem_singleton.1 hq]; exact hx
theorem isort_map {f : Nat → Nat} {key key' : Nat → Nat} {l : List Nat} (h : ∀ q ∈ l, key q = key' (f q)) : isort key' (l.map f) = (isort key l).map f := by
  unfold isort
  exact foldl_insA_map l [] h (fun q hq => by cases hq)
/-- Some of those that wait are ready. -/
theorem ready_sim {S : Sc} {k : Nat} (h : S.good k) (ti : Bool) (X Y : List Nat) (nw : Nat) (hp : (X ++ Y).Perm S.waits) :
    Sc.good { S with waits := Y, row := S.row ++ X, tk := rdyL ti S.tk X, now := nw } k ∧
    Sc.abs { S with waits := Y, row := S.row ++ X, tk := rdyL ti S.tk X, now := nw } = { S.abs.upd (rdyG ti) (X.map S.idq) with waits := Y.map S.idq, row := S.abs.row ++ X.map S.idq, now := nw } := by
  have hX : ∀ q ∈ X, q ∈ S.waits := fun q hq => hp.mem_iff.1 (List.mem_append_left _ hq)
  have hY : ∀ q ∈ Y, q ∈ S.waits := fun q hq => hp.mem_iff.1 (List.mem_append_right _ hq)
  have hall : ∀ q ∈ S.waits, q ∈ S.all := fun q hq => mem_all.2 (.inr (.inl hq))
  have hnw : S.waits.Nodup := (h.nd.sublist (List.sublist_append_right _ _)).sublist (List.sublist_append_left _ _)
  have hxy := hp.nodup_iff.2 hnw
  rw [List.nodup_append] at hxy
  have hid : ∀ q, (rdyL ti S.tk X q).id = (S.tk q).id := fun q => by rw [rdyL_eq]; exact updL_id (rdyG_id _) _ _ _
  constructor
  · refine h.move rfl rfl rfl hid ?_ (fun q => by dsimp only; rw [rdyL_eq]; exact rdyG_ps _ _ _ _ _ (h.tv q)) ?_ ?_ ?_
    · show ((S.row ++ X) ++ (Y ++ S.runs.toList)).Perm (S.row ++ (S.waits ++ S.runs.toList))
      rw [List.append_assoc]
      refine List.Perm.append_left _ ?_
      rw [← List.append_assoc]
      exact hp.append_right _
    · intro q hq
      show (rdyL ti S.tk X q).st = 1
      rw [rdyL_eq]
      rcases List.mem_append.1 hq with hq | hq
      · rw [updL_out (fun e => (h.dj.1 q hq).1 (hX q e))]; exact h.srow q hq
      · rw [updL_in hq]; rfl
    · intro q hq
      show (rdyL ti S.tk X q).st = 3
      rw [rdyL_eq, updL_out (fun e => hxy.2.2 q e q hq rfl)]
      exact h.swt q (hY q hq)
    · intro q hq
      show (rdyL ti S.tk X q).st = 2
      rw [rdyL_eq, updL_out (fun e => h.dj.2 q (hX q e) hq)]
      exact h.srn q hq
  · show Ab.mk _ _ _ _ _ _ _ = Ab.mk _ _ _ _ _ _ _
    rw [idq_eq (S := S) hid]
    dsimp only
    rw [rdyL_eq, h.abs_t (fun r hr => hall r (hX r hr)), List.map_append]
    rfl
theorem wake_sim {S : Sc} {k : Nat} (h : S.good k) (q : Nat) (most : Int) : (S.wake q most).good k ∧ (S.wake q most).abs = S.abs.wake q most ∧ (S.wakeR q most).2.2 = (S.abs.wakeR q most).2.2 := by
  have e : S.abs.wakeR q most = ((S.wakeR q most).1.map S.idq, (S.wakeR q most).2.1.map S.idq, (S.wakeR q most).2.2) := by
    unfold Ab.wakeR Sc.wakeR
    refine runF_abs fun r hr n => ?_
    unfold stepW
    rw [h.get_at (mem_all.2 (.inr (.inl hr)))]
  have hs := ready_sim h false (S.wakeR q most).1 (S.wakeR q most).2.1 S.now (runF_sub _ _ _).2.2
  refine ⟨hs.1, ?_, by rw [e]⟩
  unfold Ab.wake
  rw [e]
  exact hs.2
theorem tick_sim {S : Sc} {k : Nat} (h : S.good k) (t : Nat) : (S.tick t).1.good k ∧ (S.tick t).1.abs = (S.abs.tick t).1 ∧ (S.tick t).2 = (S.abs.tick t).2 := by
  have e : S.abs.tickR t = ((S.tickR t).1.map S.idq, (S.tickR t).2.1.map S.idq, (S.tickR t).2.2) := by
    unfold Ab.tickR Sc.tickR
    refine runF_abs fun r hr n => ?_
    unfold stepT
    rw [h.get_at (mem_all.2 (.inr (.inl hr)))]
  have hsub : ∀ q ∈ (S.tickR t).1, q ∈ S.all := fun q hq => mem_all.2 (.inr (.inl ((runF_sub _ _ _).1.mem hq)))
  have e2 : S.abs.tickL t = (isort (fun q => (S.tk q).un) (S.tickR t).1).map S.idq := by
    unfold Ab.tickL
    rw [e]
    exact isort_map fun q hq => by show _ = (S.abs.get (S.idq q)).un; rw [h.get_at (hsub q hq)]
  unfold Sc.tick Ab.tick
  by_cases hb : t < S.now ∨ 4611686018427387904 ≤ t
  · rw [if_pos hb, if_pos (show t < S.abs.now ∨ 4611686018427387904 ≤ t from hb)]; exact ⟨h, rfl, rfl⟩
  rw [if_neg hb, if_neg (show ¬ (t < S.abs.now ∨ 4611686018427387904 ≤ t) from hb)]
  have hs := ready_sim h true (isort (fun q => (S.tk q).un) (S.tickR t).1) (S.tickR t).2.1 t (((isort_perm _ _).append_right _).trans (runF_sub _ _ _).2.2)
  refine ⟨hs.1, ?_, rfl⟩
  rw [e2, e]
  exact hs.2
theorem ready_abs (S : Sc) : S.ready = S.abs.row := rfl
theorem nextF_map {f : Nat → Nat} {tk tk' : Nat → Tk} : ∀ (l : List Nat) (z : Nat), (∀ q ∈ l, tk' (f q) = tk q) → (l.map f).foldl (nextS tk') z = l.foldl (nextS tk) z
  | [], _, _ => rfl
  | t :: l, z, h => by
    rw [List.map_cons, List.foldl_cons, List.foldl_cons, nextF_map l _ (fun q hq => h q (List.mem_cons_of_mem _ hq))]
    congr 1
    unfold nextS
    rw [h t (List.mem_cons_self ..)]
theorem next_abs {S : Sc} {k : Nat} (h : S.good k) : nextF S.tk S.waits = nextF S.abs.get S.abs.waits :=
  (nextF_map S.waits 0 (fun q hq => h.get_at (mem_all.2 (.inr (.inl hq))))).symm

end Go.Proofs.Ytcicmlmfnjkekaa


namespace Go.Proofs.Ytcicmlmfnjkekaa
open Go Pw
set_option maxRecDepth 20000
set_option maxHeartbeats 4000000
set_option synthInstance.maxHeartbeats 400000
set_option synthInstance.maxSize 4000
set_option maxHeartbeats 1000000

def abA (p k : Nat) (A : Ab) : Assn := exA (fun S : Sc => S.good k ∧ S.abs = A) (fun S => [scA p S])
theorem Imp.ab {p k : Nat} {A : Ab} {S : Sc} (h : S.good k) (e : S.abs = A) : Imp [scA p S] [abA p k A] := Imp.shutA1 (p := fun S : Sc => S.good k ∧ S.abs = A) S ⟨h, e⟩ (Imp.refl _)
theorem ab_mono {p k k' : Nat} {A : Ab} (h : k ≤ k') : Imp [abA p k A] [abA p k' A] := fun f hf => by
  obtain ⟨f1, f2, hd, h1, h2, hx, hl⟩ := hf
  obtain ⟨S, hS, hs⟩ := hx
  exact ⟨f1, f2, hd, h1, h2, ⟨S, ⟨hS.1.mono h, hS.2⟩, hs⟩, hl⟩
class AbDel (L : List Assn) (p : Nat) (k : outParam Nat) (A : outParam Ab) (R : outParam (List Assn)) : Prop where h : Del (abA p k A) L R
instance (priority := 1100) {L : List Assn} {p k : Nat} {A : Ab} : AbDel (abA p k A :: L) p k A L := ⟨.head _ _⟩
instance {B : Assn} {L R : List Assn} {p k : Nat} {A : Ab} [d : AbDel L p k A R] : AbDel (B :: L) p k A (B :: R) := ⟨.tail d.h⟩
theorem a_spawn (p k : Nat) (n : Nat) (A : Ab) (hk : k < 1000000) : Sat Try.prog 9 [.pointer (some ⟨p, 0, none⟩), .int .u32 (n : Nat)] [abA p k A] (fun u L' => u = .int .i64 ((A.spawn n).2 : Nat) ∧ L' = [abA p (k) (A.spawn n).1]) := by
  refine Sat.openA1 ?_
  rintro S ⟨hg, rfl⟩
  refine (spawn_spec p S (hg.ok hk) n).post ?_
  rintro u L' ⟨b, hb, rfl, rfl⟩
  have hs := spawn_sim hg b n hb
  exact ⟨_, Imp.ab hs.1 hs.2.1, by rw [hs.2.2], rfl⟩
theorem a_pick (p k : Nat) (n : Nat) (A : Ab) (hk : k < 1000000) (hn : n < 18446744073709551616) : Sat Try.prog 10 [.pointer (some ⟨p, 0, none⟩), .int .u64 (n : Nat)] [abA p k A] (fun u L' => u = asResult [.int .u32 ((A.pick n).2.1 : Nat), .int .i64 ((A.pick n).2.2 : Nat)] ∧ L' = [abA p (k + 1) (A.pick n).1]) := by
  refine Sat.openA1 ?_
  rintro S ⟨hg, rfl⟩
  refine (pick_spec p n S (hg.ok hk) hn).post ?_
  rintro u L' ⟨rfl, rfl⟩
  have hs := pick_sim hg n
  exact ⟨_, Imp.ab hs.1 hs.2.1, by rw [hs.2.2], rfl⟩
theorem a_yield (p k : Nat)  (A : Ab) (hk : k < 1000000) : Sat Try.prog 14 [.pointer (some ⟨p, 0, none⟩)] [abA p k A] (fun u L' => u = .int .i64 (A.yield.2 : Nat) ∧ L' = [abA p (k) A.yield.1]) := by
  refine Sat.openA1 ?_
  rintro S ⟨hg, rfl⟩
  refine (yield_spec p S (hg.ok hk)).post ?_
  rintro u L' ⟨rfl, rfl⟩
  have hs := yield_sim hg
  exact ⟨_, Imp.ab hs.1 hs.2.1, by rw [hs.2.2], rfl⟩
theorem a_done (p k : Nat)  (A : Ab) (hk : k < 1000000) : Sat Try.prog 17 [.pointer (some ⟨p, 0, none⟩)] [abA p k A] (fun u L' => u = .int .i64 (A.done.2 : Nat) ∧ L' = [abA p (k) A.done.1]) := by
  refine Sat.openA1 ?_
  rintro S ⟨hg, rfl⟩
  refine (end_spec p S (hg.ok hk)).post ?_
  rintro u L' ⟨rfl, rfl⟩
  have hs := done_sim hg
  exact ⟨_, Imp.ab hs.1 hs.2.1, by rw [hs.2.2], rfl⟩
theorem a_wait (p k : Nat) (q un : Nat) (A : Ab) (hk : k < 1000000) (hn : un < 18446744073709551616) : Sat Try.prog 13 [.pointer (some ⟨p, 0, none⟩), .int .u32 (q : Nat), .int .u64 (un : Nat)] [abA p k A] (fun u L' => u = .int .i64 ((A.wait q un).2 : Nat) ∧ L' = [abA p (k) (A.wait q un).1]) := by
  refine Sat.openA1 ?_
  rintro S ⟨hg, rfl⟩
  refine (wait_spec p q un S (hg.ok hk) hn).post ?_
  rintro u L' ⟨rfl, rfl⟩
  have hs := wait_sim hg q un
  exact ⟨_, Imp.ab hs.1 hs.2.1, by rw [hs.2.2], rfl⟩
theorem a_wake (p k : Nat) (q : Nat) (most : Int) (A : Ab) (hk : k < 1000000) : Sat Try.prog 15 [.pointer (some ⟨p, 0, none⟩), .int .u32 (q : Nat), .int .i64 most] [abA p k A] (fun u L' => u = .int .i64 ((A.wakeR q most).2.2 : Nat) ∧ L' = [abA p (k) (A.wake q most)]) := by
  refine Sat.openA1 ?_
  rintro S ⟨hg, rfl⟩
  refine (wake_spec p q most S (hg.ok hk)).post ?_
  rintro u L' ⟨rfl, rfl⟩
  have hs := wake_sim hg q most
  exact ⟨_, Imp.ab hs.1 hs.2.1, by rw [hs.2.2], rfl⟩
theorem a_tick (p k : Nat) (n : Nat) (A : Ab) (hk : k < 1000000) (h20 : A.waits.length ≤ 20) : Sat Try.prog 11 [.pointer (some ⟨p, 0, none⟩), .int .u64 (n : Nat)] [abA p k A] (fun u L' => u = .int .i64 ((A.tick n).2 : Nat) ∧ L' = [abA p (k) (A.tick n).1]) := by
  refine Sat.openA1 ?_
  rintro S ⟨hg, rfl⟩
  refine (tick_spec p n S (hg.ok hk) (by have : S.abs.waits.length = S.waits.length := List.length_map _; omega)).post ?_
  rintro u L' ⟨rfl, rfl⟩
  have hs := tick_sim hg n
  exact ⟨_, Imp.ab hs.1 hs.2.1, by rw [hs.2.2], rfl⟩
theorem a_state (p k : Nat) (n : Nat) (A : Ab) (hk : k < 1000000) : Sat Try.prog 16 [.pointer (some ⟨p, 0, none⟩), .int .u32 (n : Nat)] [abA p k A] (fun u L' => u = .int .u8 (A.state n : Nat) ∧ L' = [abA p (k) A]) := by
  refine Sat.openA1 ?_
  rintro S ⟨hg, rfl⟩
  refine (state_spec p S (hg.ok hk) n).post ?_
  rintro u L' ⟨rfl, rfl⟩
  exact ⟨_, Imp.ab hg rfl, by rw [state_abs], rfl⟩
theorem a_why (p k : Nat) (n : Nat) (A : Ab) (hk : k < 1000000) : Sat Try.prog 25 [.pointer (some ⟨p, 0, none⟩), .int .u32 (n : Nat)] [abA p k A] (fun u L' => u = .int .i64 (A.why n : Nat) ∧ L' = [abA p (k) A]) := by
  refine Sat.openA1 ?_
  rintro S ⟨hg, rfl⟩
  refine (why_spec p S (hg.ok hk) n).post ?_
  rintro u L' ⟨rfl, rfl⟩
  exact ⟨_, Imp.ab hg rfl, by rw [why_abs], rfl⟩
theorem a_now (p k : Nat)  (A : Ab) (hk : k < 1000000) : Sat Try.prog 12 [.pointer (some ⟨p, 0, none⟩)] [abA p k A] (fun u L' => u = .int .u64 (A.now : Nat) ∧ L' = [abA p (k) A]) := by
  refine Sat.openA1 ?_
  rintro S ⟨hg, rfl⟩
  refine (now_spec p S (hg.ok hk)).post ?_
  rintro u L' ⟨rfl, rfl⟩
  exact ⟨_, Imp.ab hg rfl, rfl, rfl⟩
theorem a_next (p k : Nat)  (A : Ab) (hk : k < 1000000) : Sat Try.prog 22 [.pointer (some ⟨p, 0, none⟩)] [abA p k A] (fun u L' => u = asResult [.int .u64 (nextF A.get A.waits : Nat), .bool (decide (nextF A.get A.waits ≠ 0))] ∧ L' = [abA p (k) A]) := by
  refine Sat.openA1 ?_
  rintro S ⟨hg, rfl⟩
  refine (next_spec p S (hg.ok hk)).post ?_
  rintro u L' ⟨rfl, rfl⟩
  exact ⟨_, Imp.ab hg rfl, by rw [next_abs hg], rfl⟩
theorem a_ready (p k : Nat) (A : Ab) (hk : k < 1000000) : Sat Try.prog 18 [.pointer (some ⟨p, 0, none⟩)] [abA p k A] (fun u L' => ∃ a k2, u = .slice a A.row.length k2 ∧ L' = [abA p k A, sl 29 1 (.slice a A.row.length k2) A.row.length (A.row.map w32)]) := by
  refine Sat.openA1 ?_
  rintro S ⟨hg, rfl⟩
  refine (ready18_spec p S (hg.ok hk)).post ?_
  rintro u L' ⟨a, k2, rfl, rfl⟩
  have el : S.abs.row.length = S.row.length := List.length_map _
  refine ⟨_, Imp.shutA (p := fun S' : Sc => S'.good k ∧ S'.abs = S.abs) (Ls := fun S : Sc => [scA p S]) S ⟨hg, rfl⟩ (Imp.refl _), a, k2, by rw [el], ?_⟩
  rw [el, ready_abs]; rfl
theorem a_new (pat : Nat) (h1 : 1 ≤ pat) (h2 : pat ≤ 256) : Sat Try.prog 8 [.int .i64 (pat : Nat)] [] (fun u L' => ∃ p, u = asResult [.pointer (some ⟨p, 0, none⟩), .int .i64 (0 : Nat)] ∧ L' = [abA p 0 (newA pat)]) := by
  refine (new_spec pat h1 h2).post ?_
  rintro u L' ⟨p, rfl, rfl⟩
  exact ⟨_, Imp.ab (new_good h1 h2) (new_abs pat), p, rfl, rfl⟩
instance {L R : List Assn} {p k : Nat} {x : Int} {n : Nat}  {A : Ab} [hx : Nn x n] [hd : AbDel L p k A R] : FnR Try.prog 9 [.pointer (some ⟨p, 0, none⟩), .int .u32 x] L (fun q => Vc (k < 1000000) (q (.int .i64 ((A.spawn n).2 : Nat)) (abA p (k) (A.spawn n).1 :: R))) :=
  ⟨fun q h => ⟨_, R, _, by rw [hx.h]; exact a_spawn p k n A h.l, .cons hd.h (.nil _), fun v L' hv => by rw [hv.1, hv.2]; exact h.r⟩⟩
instance {L R : List Assn} {p k : Nat} {x : Int} {n : Nat}  {A : Ab} [hx : Nn x n] [hd : AbDel L p k A R] : FnR Try.prog 10 [.pointer (some ⟨p, 0, none⟩), .int .u64 x] L (fun q => Vc (k < 1000000 ∧ n < 18446744073709551616) (q (asResult [.int .u32 ((A.pick n).2.1 : Nat), .int .i64 ((A.pick n).2.2 : Nat)]) (abA p (k + 1) (A.pick n).1 :: R))) :=
  ⟨fun q h => ⟨_, R, _, by rw [hx.h]; exact a_pick p k n A h.l.1 h.l.2, .cons hd.h (.nil _), fun v L' hv => by rw [hv.1, hv.2]; exact h.r⟩⟩
instance {L R : List Assn} {p k : Nat}  {A : Ab} [hd : AbDel L p k A R] : FnR Try.prog 14 [.pointer (some ⟨p, 0, none⟩)] L (fun q => Vc (k < 1000000) (q (.int .i64 (A.yield.2 : Nat)) (abA p (k) A.yield.1 :: R))) :=
  ⟨fun q h => ⟨_, R, _, by exact a_yield p k A h.l, .cons hd.h (.nil _), fun v L' hv => by rw [hv.1, hv.2]; exact h.r⟩⟩
instance {L R : List Assn} {p k : Nat}  {A : Ab} [hd : AbDel L p k A R] : FnR Try.prog 17 [.pointer (some ⟨p, 0, none⟩)] L (fun q => Vc (k < 1000000) (q (.int .i64 (A.done.2 : Nat)) (abA p (k) A.done.1 :: R))) :=
  ⟨fun q h => ⟨_, R, _, by exact a_done p k A h.l, .cons hd.h (.nil _), fun v L' hv => by rw [hv.1, hv.2]; exact h.r⟩⟩
instance {L R : List Assn} {p k : Nat} {x y : Int} {n u : Nat}  {A : Ab} [hx : Nn x n] [hy : Nn y u] [hd : AbDel L p k A R] : FnR Try.prog 13 [.pointer (some ⟨p, 0, none⟩), .int .u32 x, .int .u64 y] L (fun q => Vc (k < 1000000 ∧ u < 18446744073709551616) (q (.int .i64 ((A.wait n u).2 : Nat)) (abA p (k) (A.wait n u).1 :: R))) :=
  ⟨fun q h => ⟨_, R, _, by rw [hx.h, hy.h]; exact a_wait p k n u A h.l.1 h.l.2, .cons hd.h (.nil _), fun v L' hv => by rw [hv.1, hv.2]; exact h.r⟩⟩
instance {L R : List Assn} {p k : Nat} {x : Int} {n : Nat} {most : Int}  {A : Ab} [hx : Nn x n] [hd : AbDel L p k A R] : FnR Try.prog 15 [.pointer (some ⟨p, 0, none⟩), .int .u32 x, .int .i64 most] L (fun q => Vc (k < 1000000) (q (.int .i64 ((A.wakeR n most).2.2 : Nat)) (abA p (k) (A.wake n most) :: R))) :=
  ⟨fun q h => ⟨_, R, _, by rw [hx.h]; exact a_wake p k n most A h.l, .cons hd.h (.nil _), fun v L' hv => by rw [hv.1, hv.2]; exact h.r⟩⟩
instance {L R : List Assn} {p k : Nat} {x : Int} {n : Nat}  {A : Ab} [hx : Nn x n] [hd : AbDel L p k A R] : FnR Try.prog 11 [.pointer (some ⟨p, 0, none⟩), .int .u64 x] L (fun q => Vc (k < 1000000 ∧ A.waits.length ≤ 20) (q (.int .i64 ((A.tick n).2 : Nat)) (abA p (k) (A.tick n).1 :: R))) :=
  ⟨fun q h => ⟨_, R, _, by rw [hx.h]; exact a_tick p k n A h.l.1 h.l.2, .cons hd.h (.nil _), fun v L' hv => by rw [hv.1, hv.2]; exact h.r⟩⟩
instance {L R : List Assn} {p k : Nat} {x : Int} {n : Nat}  {A : Ab} [hx : Nn x n] [hd : AbDel L p k A R] : FnR Try.prog 16 [.pointer (some ⟨p, 0, none⟩), .int .u32 x] L (fun q => Vc (k < 1000000) (q (.int .u8 (A.state n : Nat)) (abA p (k) A :: R))) :=
  ⟨fun q h => ⟨_, R, _, by rw [hx.h]; exact a_state p k n A h.l, .cons hd.h (.nil _), fun v L' hv => by rw [hv.1, hv.2]; exact h.r⟩⟩
instance {L R : List Assn} {p k : Nat} {x : Int} {n : Nat}  {A : Ab} [hx : Nn x n] [hd : AbDel L p k A R] : FnR Try.prog 25 [.pointer (some ⟨p, 0, none⟩), .int .u32 x] L (fun q => Vc (k < 1000000) (q (.int .i64 (A.why n : Nat)) (abA p (k) A :: R))) :=
  ⟨fun q h => ⟨_, R, _, by rw [hx.h]; exact a_why p k n A h.l, .cons hd.h (.nil _), fun v L' hv => by rw [hv.1, hv.2]; exact h.r⟩⟩
instance {L R : List Assn} {p k : Nat}  {A : Ab} [hd : AbDel L p k A R] : FnR Try.prog 12 [.pointer (some ⟨p, 0, none⟩)] L (fun q => Vc (k < 1000000) (q (.int .u64 (A.now : Nat)) (abA p (k) A :: R))) :=
  ⟨fun q h => ⟨_, R, _, by exact a_now p k A h.l, .cons hd.h (.nil _), fun v L' hv => by rw [hv.1, hv.2]; exact h.r⟩⟩
instance {L R : List Assn} {p k : Nat}  {A : Ab} [hd : AbDel L p k A R] : FnR Try.prog 22 [.pointer (some ⟨p, 0, none⟩)] L (fun q => Vc (k < 1000000) (q (asResult [.int .u64 (nextF A.get A.waits : Nat), .bool (decide (nextF A.get A.waits ≠ 0))]) (abA p (k) A :: R))) :=
  ⟨fun q h => ⟨_, R, _, by exact a_next p k A h.l, .cons hd.h (.nil _), fun v L' hv => by rw [hv.1, hv.2]; exact h.r⟩⟩
instance {L R : List Assn} {p k : Nat} {A : Ab} [hd : AbDel L p k A R] : FnR Try.prog 18 [.pointer (some ⟨p, 0, none⟩)] L (fun q => Vc (k < 1000000) (∀ a k2, q (.slice a A.row.length k2) (abA p k A :: sl 29 1 (.slice a A.row.length k2) A.row.length (A.row.map w32) :: R))) :=
  ⟨fun q h => ⟨_, R, _, a_ready p k A h.l, .cons hd.h (.nil _), fun v L' hv => by obtain ⟨a, k2, e1, e2⟩ := hv; rw [e1, e2]; exact h.r a k2⟩⟩
instance {L : List Assn} {x : Int} {pat : Nat} [hx : Nn x pat] : FnR Try.prog 8 [.int .i64 x] L (fun q => Vc (1 ≤ pat ∧ pat ≤ 256) (∀ p, q (asResult [.pointer (some ⟨p, 0, none⟩), .int .i64 (0 : Nat)]) (abA p 0 (newA pat) :: L))) :=
  ⟨fun q h => ⟨[], L, _, by rw [hx.h]; exact a_new pat h.l.1 h.l.2, .nil _, fun v L' hv => by obtain ⟨p, e1, e2⟩ := hv; rw [e1, e2]; exact h.r p⟩⟩

end Go.Proofs.Ytcicmlmfnjkekaa


namespace Go.Proofs.Ytcicmlmfnjkekaa
open Go Pw
set_option maxRecDepth 20000
set_option maxHeartbeats 4000000
set_option synthInstance.maxHeartbeats 400000
set_option synthInstance.maxSize 4000
set_option maxHeartbeats 1000000
theorem nil_stops (fv : Value) :
    Sat Try.prog 35 [.pointer none, fv] [] (fun u L' => u = .int .i64 1 ∧ L' = []) := by
  all_goals
    refine Sat.enter Try.func35 rfl Try.ntmps35 rfl (fun c R => ?_)
    try simp only [List.cons_append, List.nil_append]
    repeat' (first
      | (exact Fini.of ⟨rfl, rfl⟩ (by repeat first | exact Imp.refl _ | apply Imp.drop))
      | refine And.intro (fun hc => ?_) (fun hc => ?_)
      | refine And.intro ?_ ?_
      | intro b
      | refine stp ?_
      | refine TQ.finC ?_
      | refine TQ.finC2 ?_
      | refine TQ.finC3 ?_
      | refine ⟨fun hc => ?_, fun hc => ?_⟩
      | refine Ei.f ?_
      | refine ⟨?_, ?_⟩
      | intro b
      | omega
      | (dsimp only; omega)
      | fail)
instance {L : List Assn} {fv : Value} : FnR Try.prog 35 [.pointer none, fv] L (fun q => q (.int .i64 1) L) := ⟨fun q h => ⟨[], L, _, nil_stops fv, .nil _, fun v L' hv => by rw [hv.1, hv.2]; exact h⟩⟩
theorem nil_spawn (x : Int) :
    Sat Try.prog 9 [.pointer none, .int .u32 x] [] (fun u L' => u = .int .i64 1 ∧ L' = []) := by
  all_goals
    refine Sat.enter Try.func9 rfl Try.ntmps9 rfl (fun c R => ?_)
    try simp only [List.cons_append, List.nil_append]
    repeat' (first
      | (exact Fini.of ⟨rfl, rfl⟩ (by repeat first | exact Imp.refl _ | apply Imp.drop))
      | refine And.intro (fun hc => ?_) (fun hc => ?_)
      | refine And.intro ?_ ?_
      | intro b
      | refine stp ?_
      | refine TQ.finC ?_
      | refine TQ.finC2 ?_
      | refine TQ.finC3 ?_
      | refine ⟨fun hc => ?_, fun hc => ?_⟩
      | refine Ei.f ?_
      | refine ⟨?_, ?_⟩
      | intro b
      | omega
      | (dsimp only; omega)
      | fail)
instance {L : List Assn} {x : Int} : FnR Try.prog 9 [.pointer none, .int .u32 x] L (fun q => q (.int .i64 1) L) := ⟨fun q h => ⟨[], L, _, nil_spawn x, .nil _, fun v L' hv => by rw [hv.1, hv.2]; exact h⟩⟩
theorem nil_pick (x : Int) :
    Sat Try.prog 10 [.pointer none, .int .u64 x] [] (fun u L' => u = asResult [.int .u32 0, .int .i64 1] ∧ L' = []) := by
  all_goals
    refine Sat.enter Try.func10 rfl Try.ntmps10 rfl (fun c R => ?_)
    try simp only [List.cons_append, List.nil_append]
    repeat' (first
      | (exact Fini.of ⟨rfl, rfl⟩ (by repeat first | exact Imp.refl _ | apply Imp.drop))
      | refine T.pl 10 [10] (.p 5 (.d 0 (.d 1 (.p 2 (.d 3 (.d 4 (.d 6 (.d 7 (.p 8 (.d 9 (.n 10 .fin))))))))))) ?_
      | refine T.pl 11 [8, 11] (.p 5 (.p 6 (.p 7 (.d 1 (.p 2 (.d 3 (.d 4 (.b2 0 (.n 8 (.p 9 (.d 10 (.n 11 .fin)))) 8 (.d 0 (.p 9 (.d 10 (.n 11 .fin)))))))))))) ?_
      | refine And.intro (fun hc => ?_) (fun hc => ?_)
      | refine And.intro ?_ ?_
      | intro b
      | refine stp ?_
      | refine TQ.finC ?_
      | refine TQ.finC2 ?_
      | refine TQ.finC3 ?_
      | refine ⟨fun hc => ?_, fun hc => ?_⟩
      | refine Ei.f ?_
      | refine ⟨?_, ?_⟩
      | intro b
      | omega
      | (dsimp only; omega)
      | fail)
instance {L : List Assn} {x : Int} : FnR Try.prog 10 [.pointer none, .int .u64 x] L (fun q => q (asResult [.int .u32 0, .int .i64 1]) L) := ⟨fun q h => ⟨[], L, _, nil_pick x, .nil _, fun v L' hv => by rw [hv.1, hv.2]; exact h⟩⟩
theorem nil_yield  :
    Sat Try.prog 14 [.pointer none] [] (fun u L' => u = .int .i64 1 ∧ L' = []) := by
  all_goals
    refine Sat.enter Try.func14 rfl Try.ntmps14 rfl (fun c R => ?_)
    try simp only [List.cons_append, List.nil_append]
    repeat' (first
      | (exact Fini.of ⟨rfl, rfl⟩ (by repeat first | exact Imp.refl _ | apply Imp.drop))
      | refine And.intro (fun hc => ?_) (fun hc => ?_)
      | refine And.intro ?_ ?_
      | intro b
      | refine stp ?_
      | refine TQ.finC ?_
      | refine TQ.finC2 ?_
      | refine TQ.finC3 ?_
      | refine ⟨fun hc => ?_, fun hc => ?_⟩
      | refine Ei.f ?_
      | refine ⟨?_, ?_⟩
      | intro b
      | omega
      | (dsimp only; omega)
      | fail)
instance {L : List Assn}  : FnR Try.prog 14 [.pointer none] L (fun q => q (.int .i64 1) L) := ⟨fun q h => ⟨[], L, _, nil_yield , .nil _, fun v L' hv => by rw [hv.1, hv.2]; exact h⟩⟩
theorem nil_done  :
    Sat Try.prog 17 [.pointer none] [] (fun u L' => u = .int .i64 1 ∧ L' = []) := by
  all_goals
    refine Sat.enter Try.func17 rfl Try.ntmps17 rfl (fun c R => ?_)
    try simp only [List.cons_append, List.nil_append]
    repeat' (first
      | (exact Fini.of ⟨rfl, rfl⟩ (by repeat first | exact Imp.refl _ | apply Imp.drop))
      | refine And.intro (fun hc => ?_) (fun hc => ?_)
      | refine And.intro ?_ ?_
      | intro b
      | refine stp ?_
      | refine TQ.finC ?_
      | refine TQ.finC2 ?_
      | refine TQ.finC3 ?_
      | refine ⟨fun hc => ?_, fun hc => ?_⟩
      | refine Ei.f ?_
      | refine ⟨?_, ?_⟩
      | intro b
      | omega
      | (dsimp only; omega)
      | fail)
instance {L : List Assn}  : FnR Try.prog 17 [.pointer none] L (fun q => q (.int .i64 1) L) := ⟨fun q h => ⟨[], L, _, nil_done , .nil _, fun v L' hv => by rw [hv.1, hv.2]; exact h⟩⟩
theorem nil_wait (x y : Int) :
    Sat Try.prog 13 [.pointer none, .int .u32 x, .int .u64 y] [] (fun u L' => u = .int .i64 1 ∧ L' = []) := by
  all_goals
    refine Sat.enter Try.func13 rfl Try.ntmps13 rfl (fun c R => ?_)
    try simp only [List.cons_append, List.nil_append]
    repeat' (first
      | (exact Fini.of ⟨rfl, rfl⟩ (by repeat first | exact Imp.refl _ | apply Imp.drop))
      | refine And.intro (fun hc => ?_) (fun hc => ?_)
      | refine And.intro ?_ ?_
      | intro b
      | refine stp ?_
      | refine TQ.finC ?_
      | refine TQ.finC2 ?_
      | refine TQ.finC3 ?_
      | refine ⟨fun hc => ?_, fun hc => ?_⟩
      | refine Ei.f ?_
      | refine ⟨?_, ?_⟩
      | intro b
      | omega
      | (dsimp only; omega)
      | fail)
instance {L : List Assn} {x y : Int} : FnR Try.prog 13 [.pointer none, .int .u32 x, .int .u64 y] L (fun q => q (.int .i64 1) L) := ⟨fun q h => ⟨[], L, _, nil_wait x y, .nil _, fun v L' hv => by rw [hv.1, hv.2]; exact h⟩⟩
theorem nil_wake (x y : Int) :
    Sat Try.prog 15 [.pointer none, .int .u32 x, .int .i64 y] [] (fun u L' => u = .int .i64 0 ∧ L' = []) := by
  all_goals
    refine Sat.enter Try.func15 rfl Try.ntmps15 rfl (fun c R => ?_)
    try simp only [List.cons_append, List.nil_append]
    repeat' (first
      | (exact Fini.of ⟨rfl, rfl⟩ (by repeat first | exact Imp.refl _ | apply Imp.drop))
      | refine And.intro (fun hc => ?_) (fun hc => ?_)
      | refine And.intro ?_ ?_
      | intro b
      | refine stp ?_
      | refine TQ.finC ?_
      | refine TQ.finC2 ?_
      | refine TQ.finC3 ?_
      | refine ⟨fun hc => ?_, fun hc => ?_⟩
      | refine Ei.f ?_
      | refine ⟨?_, ?_⟩
      | intro b
      | omega
      | (dsimp only; omega)
      | fail)
instance {L : List Assn} {x y : Int} : FnR Try.prog 15 [.pointer none, .int .u32 x, .int .i64 y] L (fun q => q (.int .i64 0) L) := ⟨fun q h => ⟨[], L, _, nil_wake x y, .nil _, fun v L' hv => by rw [hv.1, hv.2]; exact h⟩⟩
theorem nil_tick (x : Int) :
    Sat Try.prog 11 [.pointer none, .int .u64 x] [] (fun u L' => u = .int .i64 1 ∧ L' = []) := by
  all_goals
    refine Sat.enter Try.func11 rfl Try.ntmps11 rfl (fun c R => ?_)
    try simp only [List.cons_append, List.nil_append]
    repeat' (first
      | (exact Fini.of ⟨rfl, rfl⟩ (by repeat first | exact Imp.refl _ | apply Imp.drop))
      | refine T.pl 3 [] (.p 1 (.p 2 (.d 0 (.d 3 (.d 4 (.p 5 (.p 6 (.d 7 (.p 8 (.p 9 (.p 10 .fin))))))))))) ?_
      | refine And.intro (fun hc => ?_) (fun hc => ?_)
      | refine And.intro ?_ ?_
      | intro b
      | refine stp ?_
      | refine TQ.finC ?_
      | refine TQ.finC2 ?_
      | refine TQ.finC3 ?_
      | refine ⟨fun hc => ?_, fun hc => ?_⟩
      | refine Ei.f ?_
      | refine ⟨?_, ?_⟩
      | intro b
      | omega
      | (dsimp only; omega)
      | fail)
instance {L : List Assn} {x : Int} : FnR Try.prog 11 [.pointer none, .int .u64 x] L (fun q => q (.int .i64 1) L) := ⟨fun q h => ⟨[], L, _, nil_tick x, .nil _, fun v L' hv => by rw [hv.1, hv.2]; exact h⟩⟩
theorem nil_state (x : Int) :
    Sat Try.prog 16 [.pointer none, .int .u32 x] [] (fun u L' => u = .int .u8 0 ∧ L' = []) := by
  all_goals
    refine Sat.enter Try.func16 rfl Try.ntmps16 rfl (fun c R => ?_)
    try simp only [List.cons_append, List.nil_append]
    repeat' (first
      | (exact Fini.of ⟨rfl, rfl⟩ (by repeat first | exact Imp.refl _ | apply Imp.drop))
      | refine And.intro (fun hc => ?_) (fun hc => ?_)
      | refine And.intro ?_ ?_
      | intro b
      | refine stp ?_
      | refine TQ.finC ?_
      | refine TQ.finC2 ?_
      | refine TQ.finC3 ?_
      | refine ⟨fun hc => ?_, fun hc => ?_⟩
      | refine Ei.f ?_
      | refine ⟨?_, ?_⟩
      | intro b
      | omega
      | (dsimp only; omega)
      | fail)
instance {L : List Assn} {x : Int} : FnR Try.prog 16 [.pointer none, .int .u32 x] L (fun q => q (.int .u8 0) L) := ⟨fun q h => ⟨[], L, _, nil_state x, .nil _, fun v L' hv => by rw [hv.1, hv.2]; exact h⟩⟩
theorem nil_why (x : Int) :
    Sat Try.prog 25 [.pointer none, .int .u32 x] [] (fun u L' => u = .int .i64 1 ∧ L' = []) := by
  all_goals
    refine Sat.enter Try.func25 rfl Try.ntmps25 rfl (fun c R => ?_)
    try simp only [List.cons_append, List.nil_append]
    repeat' (first
      | (exact Fini.of ⟨rfl, rfl⟩ (by repeat first | exact Imp.refl _ | apply Imp.drop))
      | refine And.intro (fun hc => ?_) (fun hc => ?_)
      | refine And.intro ?_ ?_
      | intro b
      | refine stp ?_
      | refine TQ.finC ?_
      | refine TQ.finC2 ?_
      | refine TQ.finC3 ?_
      | refine ⟨fun hc => ?_, fun hc => ?_⟩
      | refine Ei.f ?_
      | refine ⟨?_, ?_⟩
      | intro b
      | omega
      | (dsimp only; omega)
      | fail)
instance {L : List Assn} {x : Int} : FnR Try.prog 25 [.pointer none, .int .u32 x] L (fun q => q (.int .i64 1) L) := ⟨fun q h => ⟨[], L, _, nil_why x, .nil _, fun v L' hv => by rw [hv.1, hv.2]; exact h⟩⟩
theorem nil_ready  :
    Sat Try.prog 18 [.pointer none] [] (fun u L' => u = .slice none 0 0 ∧ L' = []) := by
  all_goals
    refine Sat.enter Try.func18 rfl Try.ntmps18 rfl (fun c R => ?_)
    try simp only [List.cons_append, List.nil_append]
    repeat' (first
      | (exact Fini.of ⟨rfl, rfl⟩ (by repeat first | exact Imp.refl _ | apply Imp.drop))
      | refine And.intro (fun hc => ?_) (fun hc => ?_)
      | refine And.intro ?_ ?_
      | intro b
      | refine stp ?_
      | refine TQ.finC ?_
      | refine TQ.finC2 ?_
      | refine TQ.finC3 ?_
      | refine ⟨fun hc => ?_, fun hc => ?_⟩
      | refine Ei.f ?_
      | refine ⟨?_, ?_⟩
      | intro b
      | omega
      | (dsimp only; omega)
      | fail)
instance {L : List Assn}  : FnR Try.prog 18 [.pointer none] L (fun q => q (.slice none 0 0) L) := ⟨fun q h => ⟨[], L, _, nil_ready , .nil _, fun v L' hv => by rw [hv.1, hv.2]; exact h⟩⟩
theorem nil_now  :
    Sat Try.prog 12 [.pointer none] [] (fun u L' => u = .int .u64 0 ∧ L' = []) := by
  all_goals
    refine Sat.enter Try.func12 rfl Try.ntmps12 rfl (fun c R => ?_)
    try simp only [List.cons_append, List.nil_append]
    repeat' (first
      | (exact Fini.of ⟨rfl, rfl⟩ (by repeat first | exact Imp.refl _ | apply Imp.drop))
      | refine And.intro (fun hc => ?_) (fun hc => ?_)
      | refine And.intro ?_ ?_
      | intro b
      | refine stp ?_
      | refine TQ.finC ?_
      | refine TQ.finC2 ?_
      | refine TQ.finC3 ?_
      | refine ⟨fun hc => ?_, fun hc => ?_⟩
      | refine Ei.f ?_
      | refine ⟨?_, ?_⟩
      | intro b
      | omega
      | (dsimp only; omega)
      | fail)
instance {L : List Assn}  : FnR Try.prog 12 [.pointer none] L (fun q => q (.int .u64 0) L) := ⟨fun q h => ⟨[], L, _, nil_now , .nil _, fun v L' hv => by rw [hv.1, hv.2]; exact h⟩⟩
theorem nil_next  :
    Sat Try.prog 22 [.pointer none] [] (fun u L' => u = asResult [.int .u64 0, .bool false] ∧ L' = []) := by
  all_goals
    refine Sat.enter Try.func22 rfl Try.ntmps22 rfl (fun c R => ?_)
    try simp only [List.cons_append, List.nil_append]
    repeat' (first
      | (exact Fini.of ⟨rfl, rfl⟩ (by repeat first | exact Imp.refl _ | apply Imp.drop))
      | refine And.intro (fun hc => ?_) (fun hc => ?_)
      | refine And.intro ?_ ?_
      | intro b
      | refine stp ?_
      | refine TQ.finC ?_
      | refine TQ.finC2 ?_
      | refine TQ.finC3 ?_
      | refine ⟨fun hc => ?_, fun hc => ?_⟩
      | refine Ei.f ?_
      | refine ⟨?_, ?_⟩
      | intro b
      | omega
      | (dsimp only; omega)
      | fail)
instance {L : List Assn}  : FnR Try.prog 22 [.pointer none] L (fun q => q (asResult [.int .u64 0, .bool false]) L) := ⟨fun q h => ⟨[], L, _, nil_next , .nil _, fun v L' hv => by rw [hv.1, hv.2]; exact h⟩⟩

end Go.Proofs.Ytcicmlmfnjkekaa

