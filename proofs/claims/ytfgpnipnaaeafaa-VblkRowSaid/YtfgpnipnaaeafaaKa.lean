/- Lemmas for the proofs of this seat: no statement of the seat is claimed here. -/
import Derived.WalkKit
import Derived.TacticsIn
import Derived.OrdersIn
import Derived.Laws.World
import Derived.Laws.Sem
import Derived.Laws.Cells
import Derived.Lib.Overlaps
import Derived.Below
import Derived.CallsIn
import Derived.MapKept
import Derived.RangeFuncLeaves
set_option linter.all false

namespace Pw
open Go

/-! ## The fence: everything is allowed; r: in which round of a range over a function. -/
/-- In which round of a range over a function; the marks that such loops left. -/
structure Rd where
  rd : Option Nat
  dm : List Nat
  dc : List Deferred
abbrev Wf (r : Rd) : Fence := { fn := fun _ => True, depth := none, alive := false, round := r.rd }
def Rd.df (r : Rd) : List Deferred := (r.dm.map fun b => { target := .collected b, args := #[] }) ++ r.dc
abbrev R0 : Rd := ⟨none, [], []⟩

/-! ## The frame as a list of what was put last, over something unknown. -/
def look : List (Nat × Value) → Nat → Value → Value
  | [], _, d => d
  | (k, v) :: l, t, d => bif Nat.beq k t then v else look l t d

structure Env where
  n : Nat
  l : List (Nat × Value)
  g : Nat → Value

def Env.get (E : Env) (t : Nat) : Value := bif Nat.ble E.n t then undef else look E.l t (E.g t)
def Env.put (E : Env) (d : Nat) (v : Value) : Env := { n := E.n, l := (d, v) :: E.l, g := E.g }
def Env.puto (E : Env) (d : Option Nat) (v : Value) : Env := match d with | some d => E.put d v | none => E
def Env.act (E : Env) : Act := { tmps := Array.ofFn (n := E.n) fun i => look E.l i.1 (E.g i.1), defers := [] }
def Env.eval (E : Env) : Operand → Value
  | .tmp t => E.get t
  | .const v => v
  | .global g => .pointer (some ⟨g, 0, none⟩)
  | .func f => .func (.func f) #[] #[]

/-- .. with the marks. -/
def Env.acd (E : Env) (r : Rd) : Act := { tmps := E.act.tmps, defers := r.df }
theorem Env.acd_0 (E : Env) : E.acd R0 = E.act := rfl
theorem Env.acd_congr {E E' : Env} (h : E.act = E'.act) (r : Rd) : E.acd r = E'.acd r := by unfold Env.acd; rw [h]
theorem Env.act_get (E : Env) (t : Nat) : E.act.tmps.getD t undef = E.get t := by
  unfold Env.act Env.get
  by_cases h : t < E.n
  · have hb : Nat.ble E.n t = false := by
      cases hh : Nat.ble E.n t with
      | false => rfl
      | true => exact absurd (Nat.le_of_ble_eq_true hh) (by omega)
    simp [hb, Array.getD, h]
  · have hb : Nat.ble E.n t = true := Nat.ble_eq_true_of_le (by omega)
    simp [hb, Array.getD, h]

theorem Env.act_eval (E : Env) : E.act.eval = E.eval := by
  funext x
  cases x with
  | tmp t => exact E.act_get t
  | const v => rfl
  | global g => rfl
  | func f => rfl

theorem Env.act_put (E : Env) (d : Option Nat) (v : Value) : E.act.put d v = (E.puto d v).act := by
  cases d with
  | none => rfl
  | some d =>
    simp only [Act.put, Env.puto, Env.act, Env.put]
    congr 1
    apply Array.ext
    · simp
    · intro i h1 h2
      simp only [Array.size_setIfInBounds, Array.size_ofFn] at h1
      rw [Array.getElem_setIfInBounds]
      · simp only [Array.getElem_ofFn, look]
        by_cases hd : d = i
        · subst hd; simp
        · have : Nat.beq d i = false := by
            cases hh : Nat.beq d i with
            | false => rfl
            | true => exact absurd (Nat.eq_of_beq_eq_true hh) hd
          simp only [hd, this, if_false, cond_false]
          exact Array.getElem_ofFn _
      · simpa using h1

theorem Env.acd_eval (E : Env) (r : Rd) : (E.acd r).eval = E.eval := by rw [← E.act_eval]; rfl
theorem Env.acd_put (E : Env) (r : Rd) (d : Option Nat) (v : Value) : (E.acd r).put d v = (E.puto d v).acd r := by
  have h := congrArg Act.tmps (E.act_put d v)
  unfold Env.acd
  rw [← h]
  cases d <;> rfl
/-- What stands in slots. -/
def Env.has (E : Env) : List (Nat × Value) → Prop
  | [] => True
  | (t, v) :: r => E.get t = v ∧ E.has r

theorem look_self (l : List (Nat × Value)) (f : Nat → Value) (t : Nat) (h : ∀ p ∈ l, f p.1 = p.2) : look l t (f t) = f t := by
  induction l with
  | nil => rfl
  | cons p l ih =>
    obtain ⟨k, v⟩ := p
    simp only [look]
    cases hh : Nat.beq k t with
    | true =>
      have e := Nat.eq_of_beq_eq_true hh
      subst e
      simpa using (h (k, v) (by simp)).symm
    | false => simpa using ih (fun p hp => h p (by simp [hp]))

theorem Env.has_mem {E : Env} : ∀ {l : List (Nat × Value)}, E.has l → ∀ p ∈ l, E.get p.1 = p.2
  | [], _, p, hp => by cases hp
  | (t, v) :: r, h, p, hp => by
    rcases List.mem_cons.1 hp with rfl | hp
    · exact h.1
    · exact Env.has_mem h.2 p hp

/-- A frame is what is known of it over the rest. -/
theorem Env.act_has (E : Env) (l : List (Nat × Value)) (h : E.has l) : E.act = ({ n := E.n, l := l, g := E.get } : Env).act := by
  unfold Env.act
  congr 1
  apply Array.ext
  · simp
  · intro i h1 h2
    simp only [Array.size_ofFn] at h1
    simp only [Array.getElem_ofFn]
    have e1 : look E.l i (E.g i) = E.get i := by
      unfold Env.get
      have hb : Nat.ble E.n i = false := by
        cases hh : Nat.ble E.n i with
        | false => rfl
        | true => exact absurd (Nat.le_of_ble_eq_true hh) (by omega)
      simp [hb]
    rw [e1, look_self l E.get i (E.has_mem h)]

/-! ## Memory: what is held, apart from one another. -/
abbrev Frag := Nat → Option Obj
abbrev Assn := Frag → Prop

def SLh : List Assn → Frag → Prop
  | [], _ => True
  | A :: L, f => ∃ f1 f2 : Frag, (∀ b, f1 b = none ∨ f2 b = none) ∧ (∀ b o, f1 b = some o → f b = some o) ∧ (∀ b o, f2 b = some o → f b = some o) ∧ A f1 ∧ SLh L f2

structure Ctx where
  os : Os
  tape : Nat → Question → Nat
  output : Array (Nat × ByteArray)

def SL (c : Ctx) (L : List Assn) (w : World) : Prop :=
  w.os = c.os ∧ w.tape = c.tape ∧ w.output = c.output ∧ SLh L (fun b => w.heap[b]?)

/-- Block b is the object o. -/
def pt (b : Nat) (o : Obj) : Assn := fun f => f b = some o
/-- Block b holds cells of type t, none of them frozen. -/
abbrev cells (b : Nat) (t : TypeId) (cs : Array Value) : Assn := pt b (.cells cs t (0, 0))
/-- What was there at the start is as it was. -/
def old (h : Array Obj) : Assn := fun f => ∀ b o, h[b]? = some o → f b = some o

theorem SLh.mono : ∀ {L : List Assn} {f f' : Frag}, (∀ b o, f b = some o → f' b = some o) → SLh L f → SLh L f'
  | [], _, _, _, _ => trivial
  | _ :: _, _, _, h, ⟨f1, f2, hd, h1, h2, ha, hl⟩ => ⟨f1, f2, hd, fun b o e => h b o (h1 b o e), fun b o e => h b o (h2 b o e), ha, hl⟩

theorem SLh.tail {A : Assn} {L : List Assn} {f : Frag} (h : SLh (A :: L) f) : SLh L f :=
  let ⟨_, _, _, _, h2, _, hl⟩ := h; hl.mono h2

theorem SLh.swap {A B : Assn} {L : List Assn} {f : Frag} (h : SLh (A :: B :: L) f) : SLh (B :: A :: L) f := by
  obtain ⟨f1, f2, hd, h1, h2, ha, g1, g2, hd', k1, k2, hb, hl⟩ := h
  refine ⟨g1, fun b => if (g1 b).isSome then none else f b, ?_, fun b o e => h2 b o (k1 b o e), ?_, hb, f1, g2, ?_, ?_, ?_, ha, hl⟩
  · intro b
    cases hg : g1 b with
    | none => left; rfl
    | some o => right; simp [hg]
  · intro b o e
    dsimp only at e
    split at e
    · cases e
    · exact e
  · intro b
    rcases hd b with h | h
    · exact .inl h
    · right
      cases hg : g2 b with
      | none => rfl
      | some o => rw [k2 b o hg] at h; cases h
  · intro b o e
    have : g1 b = none := by
      rcases hd b with h | h
      · rw [e] at h; cases h
      · cases hg : g1 b with
        | none => rfl
        | some o' => rw [k1 b o' hg] at h; cases h
    simp [this, h1 b o e]
  · intro b o e
    have : g1 b = none := by
      rcases hd' b with h | h
      · exact h
      · rw [e] at h; cases h
    simp [this, h2 b o (k2 b o e)]

theorem SLh.cons {A : Assn} {L L' : List Assn} (h : ∀ f, SLh L f → SLh L' f) {f : Frag} (hh : SLh (A :: L) f) : SLh (A :: L') f :=
  let ⟨f1, f2, hd, h1, h2, ha, hl⟩ := hh; ⟨f1, f2, hd, h1, h2, ha, h f2 hl⟩

theorem SLh.imp {A A' : Assn} {L : List Assn} (h : ∀ f, A f → A' f) {f : Frag} (hh : SLh (A :: L) f) : SLh (A' :: L) f :=
  let ⟨f1, f2, hd, h1, h2, ha, hl⟩ := hh; ⟨f1, f2, hd, h1, h2, h f1 ha, hl⟩

/-- Another order. -/
theorem SLh.perm {L L' : List Assn} (h : L.Perm L') : ∀ {f : Frag}, SLh L f → SLh L' f := by
  induction h with
  | nil => exact fun h => h
  | cons x _ ih => exact fun h => SLh.cons (fun _ => ih) h
  | swap x y l => exact fun h => SLh.swap h
  | trans _ _ ih1 ih2 => exact fun h => ih2 (ih1 h)

theorem SLh.append_left {L R : List Assn} : ∀ {f : Frag}, SLh (L ++ R) f → SLh L f := by
  induction L with
  | nil => exact fun _ => trivial
  | cons A L ih => exact fun h => SLh.cons (fun _ => ih) h

/-- 'A stands in L, and R is the rest.' -/
inductive Del : Assn → List Assn → List Assn → Prop
  | head (A : Assn) (L : List Assn) : Del A (A :: L) L
  | tail {A B : Assn} {L R : List Assn} (h : Del A L R) : Del A (B :: L) (B :: R)

theorem Del.perm {A : Assn} {L R : List Assn} (h : Del A L R) : L.Perm (A :: R) := by
  induction h with
  | head => exact List.Perm.refl _
  | tail _ ih => exact (List.Perm.cons _ ih).trans (List.Perm.swap _ _ _)

inductive Pick : List Assn → List Assn → List Assn → Prop
  | nil (L : List Assn) : Pick [] L L
  | cons {A : Assn} {As L L1 R : List Assn} (h : Del A L L1) (hs : Pick As L1 R) : Pick (A :: As) L R

theorem Pick.perm {As L R : List Assn} (h : Pick As L R) : L.Perm (As ++ R) := by
  induction h with
  | nil => exact List.Perm.refl _
  | cons h _ ih => exact h.perm.trans (List.Perm.cons _ ih)

/-- 'A stands in L; with A' in its place the list is L'.' -/
inductive Put : Assn → List Assn → Assn → List Assn → Prop
  | head (A A' : Assn) (L : List Assn) : Put A (A :: L) A' (A' :: L)
  | tail {A A' B : Assn} {L L' : List Assn} (h : Put A L A' L') : Put A (B :: L) A' (B :: L')

theorem Put.del {A A' : Assn} {L L' : List Assn} (h : Put A L A' L') : ∃ R, L.Perm (A :: R) ∧ L'.Perm (A' :: R) := by
  induction h with
  | head A' L => exact ⟨L, .refl _, .refl _⟩
  | @tail A' B L L' _ ih =>
    obtain ⟨R, h1, h2⟩ := ih
    exact ⟨B :: R, (List.Perm.cons _ h1).trans (.swap _ _ _), (List.Perm.cons _ h2).trans (.swap _ _ _)⟩

inductive LMem : Assn → List Assn → Prop
  | head (A : Assn) (L : List Assn) : LMem A (A :: L)
  | tail {A B : Assn} {L : List Assn} (h : LMem A L) : LMem A (B :: L)

theorem SLh.mem {A : Assn} {L : List Assn} (hm : LMem A L) : ∀ {f : Frag}, SLh L f → ∃ f1 : Frag, A f1 ∧ ∀ b o, f1 b = some o → f b = some o := by
  induction hm with
  | head => exact fun ⟨f1, _, _, h1, _, ha, _⟩ => ⟨f1, ha, h1⟩
  | tail _ ih =>
    intro f h
    obtain ⟨_, f2, _, _, h2, _, hl⟩ := h
    obtain ⟨f1, ha, hf⟩ := ih hl
    exact ⟨f1, ha, fun b o e => h2 b o (hf b o e)⟩

/-! ### What is to be had of a thing that is held -/
def Reads (A : Assn) (a : Addr) (v : Value) : Prop := ∀ (f : Frag) (w : World), A f → (∀ b o, f b = some o → w.heap[b]? = some o) → w.cell? a = some v

theorem Reads.cells {b : Nat} {t : TypeId} {cs : Array Value} {fr : Nat × Nat} {i : Nat} {v : Value} (h : cs[i]? = some v) : Reads (pt b (.cells cs t fr)) ⟨b, i, none⟩ v := by
  intro f w ha hf
  have := hf b _ ha
  simp [World.cell?, this, h]

theorem Reads.old {h : Array Obj} {a : Addr} {v : Value} (hv : ∀ w : World, w.heap = h → w.cell? a = some v) : Reads (old h) a v := by
  intro f w ha hf
  have hb : ∀ o, h[a.block]? = some o → w.heap[a.block]? = some o := fun o e => hf _ _ (ha _ _ e)
  have h0 := hv { w with heap := h } rfl
  unfold World.cell? at h0 ⊢
  cases hh : h[a.block]? with
  | none => simp [hh] at h0
  | some o => rw [hb o hh]; simpa [hh] using h0

theorem SL.reads {c : Ctx} {L : List Assn} {w : World} {A : Assn} {a : Addr} {v : Value} (h : SL c L w) (hm : LMem A L) (hr : Reads A a v) : w.cell? a = some v := by
  obtain ⟨f1, ha, hf⟩ := SLh.mem hm h.2.2.2
  exact hr f1 w ha hf

theorem SL.heap {c : Ctx} {L : List Assn} {w : World} {b : Nat} {o : Obj} (h : SL c L w) (hm : LMem (pt b o) L) : w.heap[b]? = some o := by
  obtain ⟨f1, ha, hf⟩ := SLh.mem hm h.2.2.2
  exact hf b o ha

theorem SL.perm {c : Ctx} {L L' : List Assn} {w : World} (h : SL c L w) (hp : L.Perm L') : SL c L' w := ⟨h.1, h.2.1, h.2.2.1, h.2.2.2.perm hp⟩

/-- A new block. -/
theorem SL.alloc {c : Ctx} {L : List Assn} {w : World} (h : SL c L w) (o : Obj) : SL c (pt w.heap.size o :: L) (w.alloc o) := by
  refine ⟨h.1, h.2.1, h.2.2.1, fun b => if b = w.heap.size then some o else none, fun b => w.heap[b]?, ?_, ?_, ?_, ?_, h.2.2.2⟩
  · intro b
    by_cases hb : b = w.heap.size
    · right; subst hb; simp
    · left; simp [hb]
  · intro b o' e
    by_cases hb : b = w.heap.size
    · subst hb
      simp only [if_true] at e
      show (w.heap.push o)[w.heap.size]? = some o'
      rw [Array.getElem?_push, if_pos rfl, ← e]
    · simp [hb] at e
  · intro b o' e
    have : b < w.heap.size := (Array.getElem?_eq_some_iff.1 e).1
    show (w.heap.push o)[b]? = some o'
    rw [Array.getElem?_push, if_neg (by omega)]
    exact e
  · simp [pt]

/-- One block is turned. -/
theorem SL.setObj {c : Ctx} {L : List Assn} {w w' : World} {b : Nat} {o o' : Obj} (h : SL c (pt b o :: L) w)
    (h1 : w'.os = w.os) (h2 : w'.tape = w.tape) (h3 : w'.output = w.output) (hb : w'.heap[b]? = some o') (hk : ∀ k, k ≠ b → w'.heap[k]? = w.heap[k]?) : SL c (pt b o' :: L) w' := by
  obtain ⟨e1, e2, e3, f1, f2, hd, k1, k2, ha, hl⟩ := h
  refine ⟨h1.trans e1, h2.trans e2, h3.trans e3, fun k => if k = b then some o' else none, f2, ?_, ?_, ?_, ?_, hl⟩
  · intro k
    by_cases hkb : k = b
    · subst hkb
      right
      rcases hd k with h | h
      · have ha' : f1 k = some o := ha
        rw [ha'] at h; cases h
      · exact h
    · left; simp [hkb]
  · intro k o'' e
    by_cases hkb : k = b
    · subst hkb; simp only [if_true] at e; exact hb.trans e
    · simp [hkb] at e
  · intro k o'' e
    have hkb : k ≠ b := by
      intro hkb; subst hkb
      have ha' : f1 k = some o := ha
      rcases hd k with h | h
      · rw [ha'] at h; cases h
      · rw [e] at h; cases h
    exact (hk k hkb).trans (k2 k o'' e)
  · simp [pt]

theorem heap_setCell_same {w : World} {b i : Nat} {t : TypeId} {cs : Array Value} {fr : Nat × Nat} (v : Value) (h : w.heap[b]? = some (.cells cs t fr)) :
    (w.setCell ⟨b, i, none⟩ v).heap[b]? = some (.cells (cs.setIfInBounds i v) t fr) := by
  simp [World.setCell, Array.getElem?_modify, h]

theorem heap_setCell_ne {w : World} {a : Addr} (v : Value) {k : Nat} (h : k ≠ a.block) : (w.setCell a v).heap[k]? = w.heap[k]? := by
  simp only [World.setCell, Array.getElem?_modify]
  rw [if_neg (by omega)]

theorem SL.setCell {c : Ctx} {L : List Assn} {w : World} {b i : Nat} {t : TypeId} {cs : Array Value} {fr : Nat × Nat} (h : SL c (pt b (.cells cs t fr) :: L) w) (v : Value) :
    SL c (pt b (.cells (cs.setIfInBounds i v) t fr) :: L) (w.setCell ⟨b, i, none⟩ v) := by
  have hb := h.heap (.head _ _)
  exact h.setObj rfl rfl rfl (heap_setCell_same v hb) (fun k hk => heap_setCell_ne v (a := ⟨b, i, none⟩) hk)

theorem SL.put {c : Ctx} {L L' : List Assn} {w w' : World} {A A' : Assn} (h : SL c L w) (hp : Put A L A' L') (hh : ∀ R, SL c (A :: R) w → SL c (A' :: R) w') : SL c L' w' := by
  obtain ⟨R, h1, h2⟩ := hp.del
  exact (hh R (h.perm h1)).perm h2.symm

theorem SL.drew {c : Ctx} {L : List Assn} {w : World} (h : SL c L w) : SL c L { w with drawn := w.drawn + 1 } := h

/-! ### What follows from what -/
def Ent (c : Ctx) (L L' : List Assn) : Prop := ∀ w, SL c L w → SL c L' w
theorem Ent.refl (c : Ctx) (L : List Assn) : Ent c L L := fun _ h => h
theorem Ent.trans {c : Ctx} {L L' L'' : List Assn} (h : Ent c L L') (h' : Ent c L' L'') : Ent c L L'' := fun w hw => h' w (h w hw)
theorem Ent.perm {c : Ctx} {L L' : List Assn} (h : L.Perm L') : Ent c L L' := fun _ hw => hw.perm h
theorem Ent.drop {c : Ctx} {A : Assn} {L L' : List Assn} (h : Ent c L L') : Ent c (A :: L) L' := fun _ hw => h _ ⟨hw.1, hw.2.1, hw.2.2.1, hw.2.2.2.tail⟩
theorem Ent.cons {c : Ctx} {A : Assn} {L L' : List Assn} (h : ∀ f, SLh L f → SLh L' f) : Ent c (A :: L) (A :: L') := fun _ hw => ⟨hw.1, hw.2.1, hw.2.2.1, SLh.cons h hw.2.2.2⟩
end Pw
namespace Pw
open Go

/-! ## The judgements -/
def lift (Q : Exit → Env → Rd → World → Prop) : Exit → Act → World → Prop := fun e a w => ∃ (E : Env) (r : Rd), a = E.acd r ∧ Q e E r w

def T (P : Program) (r : Rd) (c : Ctx) (L : List Assn) (code : Code) (Q : Exit → Env → Rd → World → Prop) (E : Env) : Prop :=
  ∀ w, SL c L w → code.wpIn (Wf r) 0 P (lift Q) (E.acd r) w
def TO (P : Program) (r : Rd) (c : Ctx) (L : List Assn) (ops : Array Oper) (Q : Exit → Env → Rd → World → Prop) (l : List Oper) (E : Env) : Prop :=
  ∀ w, SL c L w → wpListIn (Wf r) 0 P ops (lift Q) l (E.acd r) w
def TQ (r : Rd) (c : Ctx) (L : List Assn) (Q : Exit → Env → Rd → World → Prop) (e : Exit) (E : Env) : Prop := ∀ w, SL c L w → Q e E r w

def thenQ (P : Program) (r : Rd) (y : Code) (Q : Exit → Env → Rd → World → Prop) : Exit → Env → Rd → World → Prop
  | .normal, E, r', w => y.wpIn (Wf r) 0 P (lift Q) (E.acd r') w
  | .exit i, E, r', w => Q (.exit i) E r' w
  | .goto i, E, r', w => Q (.goto i) E r' w
  | .ret, E, r', w => Q .ret E r' w
  | .panic ch, E, r', w => Q (.panic ch) E r' w
  | .outgrown, E, r', w => Q .outgrown E r' w
def blockQ (id : Nat) (Q : Exit → Env → Rd → World → Prop) : Exit → Env → Rd → World → Prop
  | .exit i, E, r', w => if i = id then Q .normal E r' w else Q (.exit i) E r' w
  | .normal, E, r', w => Q .normal E r' w
  | .goto i, E, r', w => Q (.goto i) E r' w
  | .ret, E, r', w => Q .ret E r' w
  | .panic ch, E, r', w => Q (.panic ch) E r' w
  | .outgrown, E, r', w => Q .outgrown E r' w
def loopQ {S : Type} (r : Rd) (c : Ctx) (n : Nat) (sl : S → List (Nat × Value)) (H : S → List Assn) (I : S → Prop) (μ : S → Nat) (s : S) (Q : Exit → Env → Rd → World → Prop) : Exit → Env → Rd → World → Prop
  | .normal, E, r', w => r' = r ∧ ∃ s', E.n = n ∧ E.has (sl s') ∧ I s' ∧ μ s' < μ s ∧ SL c (H s') w
  | .exit i, E, r', w => Q (.exit i) E r' w
  | .goto i, E, r', w => Q (.goto i) E r' w
  | .ret, E, r', w => Q .ret E r' w
  | .panic ch, E, r', w => Q (.panic ch) E r' w
  | .outgrown, E, r', w => Q .outgrown E r' w

def cutQ {S : Type} (r : Rd) (c : Ctx) (n : Nat) (sl : S → List (Nat × Value)) (H : S → List Assn) (I : S → Prop) (Q : Exit → Env → Rd → World → Prop) : Exit → Env → Rd → World → Prop
  | .normal, E, r', w => r' = r ∧ ∃ s, E.n = n ∧ E.has (sl s) ∧ I s ∧ SL c (H s) w
  | .exit i, E, r', w => Q (.exit i) E r' w
  | .goto i, E, r', w => Q (.goto i) E r' w
  | .ret, E, r', w => Q .ret E r' w
  | .panic ch, E, r', w => Q (.panic ch) E r' w
  | .outgrown, E, r', w => Q .outgrown E r' w

section
variable {P : Program} {r : Rd} {c : Ctx} {L : List Assn} {Q : Exit → Env → Rd → World → Prop} {E : Env}

theorem T.ent {L' : List Assn} {code : Code} (h : Ent c L L') (k : T P r c L' code Q E) : T P r c L code Q E := fun w hw => k w (h w hw)
theorem TO.ent {L' : List Assn} {ops : Array Oper} {l : List Oper} (h : Ent c L L') (k : TO P r c L' ops Q l E) : TO P r c L ops Q l E := fun w hw => k w (h w hw)
theorem TQ.ent {L' : List Assn} {e : Exit} (h : Ent c L L') (k : TQ r c L' Q e E) : TQ r c L Q e E := fun w hw => k w (h w hw)

theorem T.seq {x y : Code} (h : T P r c L x (thenQ P r y Q) E) : T P r c L (x.seq y) Q E := fun w hw =>
  wpIn_seq (wpIn_mono (h w hw) fun e a w' ⟨E', r', ha, hq⟩ => by
    subst ha
    cases e <;> first | exact hq | exact ⟨E', r', rfl, hq⟩)
theorem T.block {id : Nat} {x : Code} (h : T P r c L x (blockQ id Q) E) : T P r c L (.block id x) Q E := fun w hw =>
  wpIn_block (wpIn_mono (h w hw) fun e a w' ⟨E', r', ha, hq⟩ => by
    subst ha
    cases e with
    | exit i =>
      simp only [Exit.inBlock, blockQ] at hq ⊢
      split
      · rename_i hi; rw [if_pos hi] at hq; exact ⟨E', r', rfl, hq⟩
      · rename_i hi; rw [if_neg hi] at hq; exact ⟨E', r', rfl, hq⟩
    | _ => exact ⟨E', r', rfl, hq⟩)
theorem T.skip (h : TQ r c L Q .normal E) : T P r c L .skip Q E := fun w hw => wpIn_skip ⟨E, r, rfl, h w hw⟩
theorem T.label {l : Nat} (h : TQ r c L Q .normal E) : T P r c L (.label l) Q E := fun w hw => wpIn_label ⟨E, r, rfl, h w hw⟩
theorem T.exit {i : Nat} (h : TQ r c L Q (.exit i) E) : T P r c L (.exit i) Q E := fun w hw => wpIn_exit ⟨E, r, rfl, h w hw⟩
theorem T.ret (h : TQ r c L Q .ret E) : T P r c L .ret Q E := fun w hw => wpIn_ret ⟨E, r, rfl, h w hw⟩
theorem T.condB {x : Operand} {a b : Code} {t : Bool} (hc : E.eval x = .bool t) (ht : t = true → T P r c L a Q E) (hf : t = false → T P r c L b Q E) : T P r c L (.cond x a b) Q E := fun w hw =>
  wpIn_cond_split (t := t) (by rw [E.acd_eval]; exact hc) (fun h => ht h w hw) (fun h => hf h w hw)
theorem T.condD {x : Operand} {a b : Code} {p : Prop} {inst : Decidable p} (hc : E.eval x = .bool (@decide p inst)) (ht : p → T P r c L a Q E) (hf : ¬ p → T P r c L b Q E) : T P r c L (.cond x a b) Q E :=
  T.condB hc (fun h => ht (of_decide_eq_true h)) (fun h => hf (of_decide_eq_false h))
theorem T.condT {x : Operand} {a b : Code} (hc : E.eval x = .bool true) (h : T P r c L a Q E) : T P r c L (.cond x a b) Q E := T.condB hc (fun _ => h) (fun h => by cases h)
theorem T.condF {x : Operand} {a b : Code} (hc : E.eval x = .bool false) (h : T P r c L b Q E) : T P r c L (.cond x a b) Q E := T.condB hc (fun h => by cases h) (fun _ => h)


theorem wpIn_loop_ghost {F : Fence} {n : Nat} {Q : Exit → Act → World → Prop} {S : Type} {x : Code} (I : S → Act → World → Prop) (μ : S → Nat)
    (round : ∀ s a w, I s a w → x.wpIn F n P (Exit.then (fun a' w' => ∃ s', I s' a' w' ∧ μ s' < μ s) Q) a w) {s : S} {a : Act} {w : World} (h₀ : I s a w) : (Code.loop x).wpIn F n P Q a w := by
  intro b k cs hro hb hr
  have key : ∀ j s a w, μ s = j → I s a w →
      ∃ e a' w', Q e a' w' ∧ ArrivesIn (Machine.fenced P F) P (lone (b.atR a (.code x :: .inLoop x :: k)) cs w) b k cs e a' w' := by
    intro j
    induction j using Nat.strongRecOn with
    | _ j ih =>
      intro s a w hn hI
      obtain ⟨e, a₁, w₁, hq, harr⟩ := round s a w hI b (.inLoop x :: k) cs hro hb hr
      cases e with
      | normal =>
        obtain ⟨s', hI₁, hlt⟩ := hq
        obtain ⟨e₂, a₂, w₂, hq₂, harr₂⟩ := ih (μ s') (hn ▸ hlt) s' a₁ w₁ rfl hI₁
        exact ⟨e₂, a₂, w₂, hq₂, .of_steps (StepsIn.trans harr (.one (fenced_calm hb hr rfl) stepR_inLoop)) harr₂⟩
      | exit id => exact ⟨_, a₁, w₁, hq, .pass (x := .inLoop x) rfl (fun _ _ => .inl (by simp)) harr⟩
      | goto l => exact ⟨_, a₁, w₁, hq, .pass (x := .inLoop x) rfl (fun _ _ => .inl (by simp)) harr⟩
      | ret => exact ⟨_, a₁, w₁, hq, .pass (x := .inLoop x) rfl (fun _ _ => .inl (by simp)) harr⟩
      | panic ch => exact ⟨_, a₁, w₁, hq, .pass (x := .inLoop x) rfl (fun _ _ => .inl (by simp)) harr⟩
      | outgrown => exact ⟨_, a₁, w₁, hq, .pass (x := .inLoop x) rfl (fun _ _ => .inl (by simp)) harr⟩
  obtain ⟨e, a', w', hq, harr⟩ := key _ s a w rfl h₀
  exact ⟨e, a', w', hq, .of_steps (.one (fenced_calm hb hr rfl) stepR_loop) harr⟩

/-- A loop: sl s: what stands in the slots that are read later; H s: what is held; I s: what is so; μ s goes down. -/
theorem T.loop {n : Nat} {l0 : List (Nat × Value)} {g0 : Nat → Value} {S : Type} {x : Code} (s0 : S) (sl : S → List (Nat × Value)) (H : S → List Assn) (I : S → Prop) (μ : S → Nat)
    (hsl : Env.has ⟨n, l0, g0⟩ (sl s0)) (hI : I s0) (hL : Ent c L (H s0))
    (round : ∀ s g, I s → T P r c (H s) x (loopQ r c n sl H I μ s Q) ⟨n, sl s, g⟩) : T P r c L (.loop x) Q ⟨n, l0, g0⟩ := by
  intro w hw
  rw [Env.acd_congr (Env.act_has _ (sl s0) hsl) r]
  refine wpIn_loop_ghost (fun s a w => ∃ g, a = ({ n := n, l := sl s, g := g } : Env).acd r ∧ I s ∧ SL c (H s) w) μ ?_ ⟨_, rfl, hI, hL w hw⟩
  rintro s a w ⟨g, rfl, hIs, hws⟩
  refine wpIn_mono (round s g hIs w hws) ?_
  rintro ex a1 w1 ⟨E1, r1, rfl, hq⟩
  cases ex with
  | normal =>
    obtain ⟨rfl, s', en, hh, hI', hlt, hw'⟩ := hq
    have ea := E1.act_has (sl s') hh
    rw [en] at ea
    exact ⟨s', ⟨_, Env.acd_congr ea _, hI', hw'⟩, hlt⟩
  | _ => exact ⟨E1, r1, rfl, hq⟩

/-! ### What the end of a piece comes to -/
theorem TQ.nn {y : Code} (h : T P r c L y Q E) : TQ r c L (thenQ P r y Q) .normal E := h
theorem TQ.ne {y : Code} {i : Nat} (h : TQ r c L Q (.exit i) E) : TQ r c L (thenQ P r y Q) (.exit i) E := h
theorem TQ.nr {y : Code} (h : TQ r c L Q .ret E) : TQ r c L (thenQ P r y Q) .ret E := h
theorem TQ.ng {y : Code} {i : Nat} (h : TQ r c L Q (.goto i) E) : TQ r c L (thenQ P r y Q) (.goto i) E := h
theorem TQ.bn {id : Nat} (h : TQ r c L Q .normal E) : TQ r c L (blockQ id Q) .normal E := h
theorem TQ.be {id : Nat} (h : TQ r c L Q .normal E) : TQ r c L (blockQ id Q) (.exit id) E := fun w hw => by
  show (if id = id then Q .normal E r w else Q (.exit id) E r w)
  rw [if_pos rfl]; exact h w hw
theorem TQ.bo {id i : Nat} (hi : Nat.beq i id = false) (h : TQ r c L Q (.exit i) E) : TQ r c L (blockQ id Q) (.exit i) E := fun w hw => by
  show (if i = id then Q .normal E r w else Q (.exit i) E r w)
  rw [if_neg (fun e => by subst e; simp at hi)]; exact h w hw
theorem TQ.br {id : Nat} (h : TQ r c L Q .ret E) : TQ r c L (blockQ id Q) .ret E := h
theorem TQ.le {S : Type} {n : Nat} {sl : S → List (Nat × Value)} {H : S → List Assn} {I : S → Prop} {μ : S → Nat} {s : S} {i : Nat} (h : TQ r c L Q (.exit i) E) : TQ r c L (loopQ r c n sl H I μ s Q) (.exit i) E := h
theorem TQ.ce {S : Type} {n : Nat} {sl : S → List (Nat × Value)} {H : S → List Assn} {I : S → Prop} {i : Nat} (h : TQ r c L Q (.exit i) E) : TQ r c L (cutQ r c n sl H I Q) (.exit i) E := h
theorem TQ.cr {S : Type} {n : Nat} {sl : S → List (Nat × Value)} {H : S → List Assn} {I : S → Prop} (h : TQ r c L Q .ret E) : TQ r c L (cutQ r c n sl H I Q) .ret E := h
theorem TQ.cn {S : Type} {n : Nat} {sl : S → List (Nat × Value)} {H : S → List Assn} {I : S → Prop} (s : S) (hn : E.n = n) (hsl : E.has (sl s)) (hI : I s) (hL : Ent c L (H s)) : TQ r c L (cutQ r c n sl H I Q) .normal E := fun w hw => ⟨rfl, s, hn, hsl, hI, hL w hw⟩
theorem TQ.lr {S : Type} {n : Nat} {sl : S → List (Nat × Value)} {H : S → List Assn} {I : S → Prop} {μ : S → Nat} {s : S} (h : TQ r c L Q .ret E) : TQ r c L (loopQ r c n sl H I μ s Q) .ret E := h
/-- The end of a round. -/
theorem TQ.round {S : Type} {n : Nat} {sl : S → List (Nat × Value)} {H : S → List Assn} {I : S → Prop} {μ : S → Nat} {s : S} (s' : S)
    (hn : E.n = n) (hsl : E.has (sl s')) (hI : I s') (hμ : μ s' < μ s) (hL : Ent c L (H s')) : TQ r c L (loopQ r c n sl H I μ s Q) .normal E := fun w hw => ⟨rfl, s', hn, hsl, hI, hμ, hL w hw⟩

/-- A cut: behind a piece just what is named is known. -/
theorem T.cut {n : Nat} {l0 : List (Nat × Value)} {g0 : Nat → Value} {S : Type} {x : Code} {Q : Exit → Env → Rd → World → Prop} {y : Code} (sl : S → List (Nat × Value)) (H : S → List Assn) (I : S → Prop)
    (h : T P r c L x (cutQ r c n sl H I Q) ⟨n, l0, g0⟩)
    (k : ∀ s g, I s → T P r c (H s) y Q ⟨n, sl s, g⟩) : T P r c L (x.seq y) Q ⟨n, l0, g0⟩ := by
  refine T.seq fun w hw => wpIn_mono (h w hw) ?_
  rintro e a w' ⟨E', r', rfl, hq⟩
  cases e with
  | normal =>
    obtain ⟨rfl, s, en, hh, hI, hw'⟩ := hq
    refine ⟨_, _, Env.acd_congr (E'.act_has (sl s) hh) _, ?_⟩
    rw [en]
    exact k s _ hI w' hw'
  | _ => exact ⟨E', r', rfl, hq⟩

/-! ## Regions that keep the text's order -/
theorem T.reg {id : Nat} {l : List Oper} (h : TO P r c L l.toArray Q l E) : T P r c L (.region id l.toArray false) Q E := fun w hw => wpIn_region_lit (h w hw)
theorem TO.nil {ops : Array Oper} (h : TQ r c L Q .normal E) : TO P r c L ops Q [] E := fun w hw => wpListIn_nil ⟨E, r, rfl, h w hw⟩

/-- An operation that reads at most: what it yields. -/
def D (P : Program) (c : Ctx) (L : List Assn) (E : Env) (o : Oper) (v : Value) : Prop := (∀ d, o.op ≠ .defer d) ∧ ∀ w, SL c L w → (execOp E.eval o).run P w = .ok (.value v) w
/-- An operation that needs no memory. -/
def DP (P : Program) (E : Env) (o : Oper) (v : Value) : Prop := (∀ d, o.op ≠ .defer d) ∧ ∀ w, (execOp E.eval o).run P w = .ok (.value v) w
/-- Any other operation: what may come of it. -/
def N (P : Program) (r : Rd) (c : Ctx) (L : List Assn) (E : Env) (o : Oper) (Φ : Value → List Assn → Prop) : Prop :=
  ∀ w, SL c L w → ∀ (K : Act → World → Prop) (Q : Exit → Act → World → Prop), (∀ v L' w', Φ v L' → SL c L' w' → K ((E.acd r).put o.dst v) w') → o.wpIn (Wf r) 0 P (E.acd r) w K Q

theorem DP.d {o : Oper} {v : Value} (h : DP P E o v) : D P c L E o v := ⟨h.1, fun w _ => h.2 w⟩
theorem D.n {o : Oper} {v : Value} (h : D P c L E o v) : N P r c L E o (fun v' L' => v' = v ∧ L' = L) := fun w hw K Q hK => by
  refine ⟨fun _ _ => trivial, ?_⟩
  rw [Oper.semAt_eq _ _ _ h.1, E.acd_eval, h.2 w hw]
  exact hK v L w ⟨rfl, rfl⟩ hw

section
variable {nt : Nat} {l : List (Nat × Value)} {gb : Nat → Value} {ops : Array Oper} {rest : List Oper} {ds : Nat} {op : Op} {ty : TypeId} {pos : String} {af : Array Edge}
theorem TO.n {Φ : Value → List Assn → Prop} (h : N P r c L ⟨nt, l, gb⟩ ⟨some ds, op, ty, pos, af, none⟩ Φ)
    (k : ∀ v L', Φ v L' → TO P r c L' ops Q rest ⟨nt, (ds, v) :: l, gb⟩) : TO P r c L ops Q (⟨some ds, op, ty, pos, af, none⟩ :: rest) ⟨nt, l, gb⟩ := fun w hw =>
  wpListIn_plain rfl fun K hK => h w hw K _ fun v L' w' hΦ hw' => hK _ _ (by rw [Env.acd_put]; exact k v L' hΦ w' hw')
theorem TO.n0 {Φ : Value → List Assn → Prop} (h : N P r c L ⟨nt, l, gb⟩ ⟨none, op, ty, pos, af, none⟩ Φ)
    (k : ∀ v L', Φ v L' → TO P r c L' ops Q rest ⟨nt, l, gb⟩) : TO P r c L ops Q (⟨none, op, ty, pos, af, none⟩ :: rest) ⟨nt, l, gb⟩ := fun w hw =>
  wpListIn_plain rfl fun K hK => h w hw K _ fun v L' w' hΦ hw' => hK _ _ (by rw [Env.acd_put]; exact k v L' hΦ w' hw')
theorem TO.d {v : Value} (h : D P c L ⟨nt, l, gb⟩ ⟨some ds, op, ty, pos, af, none⟩ v)
    (k : TO P r c L ops Q rest ⟨nt, (ds, v) :: l, gb⟩) : TO P r c L ops Q (⟨some ds, op, ty, pos, af, none⟩ :: rest) ⟨nt, l, gb⟩ :=
  TO.n h.n (fun _ _ ⟨e1, e2⟩ => by subst e1; subst e2; exact k)
theorem TO.p {v : Value} (h : DP P ⟨nt, l, gb⟩ ⟨some ds, op, ty, pos, af, none⟩ v)
    (k : TO P r c L ops Q rest ⟨nt, (ds, v) :: l, gb⟩) : TO P r c L ops Q (⟨some ds, op, ty, pos, af, none⟩ :: rest) ⟨nt, l, gb⟩ := TO.d h.d k
theorem TO.p0 {v : Value} (h : DP P ⟨nt, l, gb⟩ ⟨none, op, ty, pos, af, none⟩ v)
    (k : TO P r c L ops Q rest ⟨nt, l, gb⟩) : TO P r c L ops Q (⟨none, op, ty, pos, af, none⟩ :: rest) ⟨nt, l, gb⟩ := TO.n0 h.d.n (fun _ _ ⟨e1, e2⟩ => by subst e1; subst e2; exact k)
end

/-- Guards. -/
def nthDst : List Oper → Nat → Option Nat
  | [], _ => none
  | o :: _, 0 => o.dst
  | _ :: t, j + 1 => nthDst t j
theorem nthDst_eq : ∀ (l : List Oper) (j : Nat), nthDst l j = (l[j]?).bind (·.dst)
  | [], _ => by simp [nthDst]
  | o :: _, 0 => by simp [nthDst]
  | _ :: t, j + 1 => by simp [nthDst, nthDst_eq t j]
def boolOf (v : Value) : Option Bool := match v with | .bool b => some b | _ => none
def Env.ylAt (E : Env) (d : Option Nat) : Option Bool := match d with | some t => boolOf (E.get t) | none => none
def Env.yl (E : Env) (ops : Array Oper) (j : Nat) : Option Bool := E.ylAt (nthDst ops.toList j)

theorem Env.yielded (E : Env) (ops : Array Oper) (j : Nat) (b : Bool) (h : E.yl ops j = some b) : yielded ops E.act.tmps j = some b := by
  unfold Env.yl at h
  rw [nthDst_eq, Array.getElem?_toList] at h
  unfold Env.ylAt boolOf at h
  unfold Go.yielded
  cases hj : (ops[j]?).bind (·.dst) with
  | none => simp [hj] at h
  | some t =>
    simp only [hj] at h
    have hg := E.act_get t
    cases ht : E.act.tmps[t]? with
    | none =>
      have hu : E.get t = undef := by rw [← hg]; simp [Array.getD_eq_getD_getElem?, ht]
      rw [hu] at h; simp [undef] at h
    | some v =>
      have hu : E.get t = v := by rw [← hg]; simp [Array.getD_eq_getD_getElem?, ht]
      rw [hu] at h
      simp only [Option.bind_some, ht]
      cases v <;> first | (cases h; rfl) | cases h

theorem wanted_none {o : Oper} {y : Nat → Option Bool} (hg : o.guard = none) : Region.wanted o y = true := by simp [Region.wanted, hg]
theorem Env.wanted {ops : Array Oper} {o : Oper} {j : Nat} {want b : Bool} (hg : o.guard = some (j, want)) (h : E.yl ops j = some b) :
    Region.wanted o (Go.yielded ops E.act.tmps) = (b == want) := by
  simp only [Region.wanted, hg, E.yielded ops j b h]
  cases b <;> cases want <;> rfl

section
variable {nt : Nat} {l : List (Nat × Value)} {gb : Nat → Value} {ops : Array Oper} {rest : List Oper} {ds : Nat} {op : Op} {ty : TypeId} {pos : String} {af : Array Edge} {j : Nat} {want : Bool}
/-- A guarded operation whose guard says yes. -/
theorem TO.on {Φ : Value → List Assn → Prop} (hy : Env.yl ⟨nt, l, gb⟩ ops j = some want) (h : N P r c L ⟨nt, l, gb⟩ ⟨some ds, op, ty, pos, af, some (j, want)⟩ Φ)
    (k : ∀ v L', Φ v L' → TO P r c L' ops Q rest ⟨nt, (ds, v) :: l, gb⟩) : TO P r c L ops Q (⟨some ds, op, ty, pos, af, some (j, want)⟩ :: rest) ⟨nt, l, gb⟩ := fun w hw =>
  wpListIn_step fun K hK => by
    rw [if_pos (by show Region.wanted _ (Go.yielded ops (Env.act ⟨nt, l, gb⟩).tmps) = true; rw [Env.wanted rfl hy]; simp)]
    exact h w hw K _ fun v L' w' hΦ hw' => hK _ _ (by rw [Env.acd_put]; exact k v L' hΦ w' hw')
theorem TO.onD {v : Value} (hy : Env.yl ⟨nt, l, gb⟩ ops j = some want) (h : D P c L ⟨nt, l, gb⟩ ⟨some ds, op, ty, pos, af, some (j, want)⟩ v)
    (k : TO P r c L ops Q rest ⟨nt, (ds, v) :: l, gb⟩) : TO P r c L ops Q (⟨some ds, op, ty, pos, af, some (j, want)⟩ :: rest) ⟨nt, l, gb⟩ :=
  TO.on hy h.n (fun _ _ ⟨e1, e2⟩ => by subst e1; subst e2; exact k)
theorem TO.onP {v : Value} (hy : Env.yl ⟨nt, l, gb⟩ ops j = some want) (h : DP P ⟨nt, l, gb⟩ ⟨some ds, op, ty, pos, af, some (j, want)⟩ v)
    (k : TO P r c L ops Q rest ⟨nt, (ds, v) :: l, gb⟩) : TO P r c L ops Q (⟨some ds, op, ty, pos, af, some (j, want)⟩ :: rest) ⟨nt, l, gb⟩ := TO.onD hy h.d k
/-- .. says no. -/
theorem TO.off {b : Bool} (hy : Env.yl ⟨nt, l, gb⟩ ops j = some b) (hb : (b == want) = false)
    (k : TO P r c L ops Q rest ⟨nt, (ds, undef) :: l, gb⟩) : TO P r c L ops Q (⟨some ds, op, ty, pos, af, some (j, want)⟩ :: rest) ⟨nt, l, gb⟩ := fun w hw =>
  wpListIn_step fun K hK => by
    rw [if_neg (by show ¬ Region.wanted _ (Go.yielded ops (Env.act ⟨nt, l, gb⟩).tmps) = true; rw [Env.wanted rfl hy, hb]; simp)]
    exact ⟨fun _ _ => trivial, hK _ _ (by rw [Env.acd_put]; exact k w hw)⟩
end
end
end Pw
namespace Pw
open Go

/-! ## Regions whose order is open -/
section
variable {P : Program} {r : Rd} {ops : Array Oper} {Q : Exit → Act → World → Prop} {S : World → Prop}

def YieldsS (P : Program) (ops : Array Oper) (S : World → Prop) (o : Oper) (v : Value) (a : Act) : Prop :=
  (Region.wanted o (yielded ops a.tmps) = true ∧ (∀ d, o.op ≠ .defer d) ∧ ∀ w, S w → (execOp a.eval o).run P w = .ok (.value v) w) ∨
  (Region.wanted o (yielded ops a.tmps) = false ∧ v = undef)

theorem YieldsS.wpOp {i : Nat} {o : Oper} {v : Value} {a : Act} (hi : ops[i]? = some o) (hy : YieldsS P ops S o v a)
    {K : Act → World → Prop} {w : World} (hS : S w) (h : K (a.put o.dst v) w) : wpOpIn (Wf r) 0 P ops Q i K a w := by
  unfold Go.wpOpIn
  simp only [hi]
  rcases hy with ⟨hw, hd, hv⟩ | ⟨hw, rfl⟩
  · simp only [hw, if_true, Oper.wpIn, Oper.semAt_eq _ _ _ hd, hv w hS, Oper.uponIn]; exact ⟨fun _ _ => trivial, h⟩
  · simp only [hw, Bool.false_eq_true, if_false]; exact ⟨fun _ _ => trivial, h⟩

theorem YieldsS.of_same {o : Oper} {v : Value} {a a' : Act} (hy : YieldsS P ops S o v a) (he : execOp a'.eval o = execOp a.eval o)
    (hw : Region.wanted o (yielded ops a'.tmps) = Region.wanted o (yielded ops a.tmps)) : YieldsS P ops S o v a' := by
  unfold YieldsS at *
  rw [he, hw]
  exact hy

theorem wpOpS_put {j : Nat} {oi oj : Oper} {v : Value} (hj : ops[j]? = some oj) (hap : oi.apart ops oj = true)
    (hsi : ∀ cs b, oi.op ≠ .select cs b) (hsj : ∀ cs b, oj.op ≠ .select cs b) (hdj : ∀ d, oj.op ≠ .defer d)
    (hQ : ∀ c a w, Q (.panic c) (a.put oi.dst v) w → Q (.panic c) a w) {K : Act → World → Prop} {a : Act} {w : World}
    (hy : YieldsS P ops S oi v a) (h : wpOpIn (Wf r) 0 P ops Q j K (a.put oi.dst v) w) :
    wpOpIn (Wf r) 0 P ops Q j (fun a' w' => YieldsS P ops S oi v a' ∧ K (a'.put oi.dst v) w') a w := by
  obtain ⟨h1, h2, h3⟩ := Oper.apart_spec hap
  have keep : ∀ (a : Act), YieldsS P ops S oi v a → ∀ u, YieldsS P ops S oi v (a.put oj.dst u) := fun a hy u =>
    hy.of_same (execOp_put oi hsi a oj.dst u h3) (wanted_put oi a oj.dst u h3)
  have keepD : ∀ d, YieldsS P ops S oi v { a with defers := d :: a.defers } := fun d => hy.of_same rfl rfl
  unfold wpOpIn at *
  simp only [hj] at *
  rw [wanted_put oj a oi.dst v h1] at h
  split
  · rename_i hw
    simp only [hw, if_true] at h
    unfold Oper.wpIn at *
    refine ⟨fun _ _ => trivial, ?_⟩
    have h := h.2
    rw [Oper.semAt_eq _ _ _ hdj, execOp_put oj hsj a oi.dst v h1] at h
    rw [Oper.semAt_eq _ _ _ hdj]
    generalize (execOp a.eval oj).run P w = q at *
    cases q with
    | ok x w' =>
      cases x <;> simp only [Oper.uponIn] at h ⊢
      case value u => exact ⟨keep a hy u, by rw [← Act.put_comm a v u h2]; exact h⟩
      case skip => exact ⟨keep a hy _, by rw [← Act.put_comm a v undef h2]; exact h⟩
      case defer d =>
        refine ⟨keep _ (keepD d) _, ?_⟩
        rw [← Act.put_comm _ v undef h2, ← Act.put_defers]
        exact h
      case enter f args =>
        refine ⟨h.1, CallsIn.mono h.2 fun e w'' he => ?_⟩
        cases e with
        | returned u => exact ⟨keep a hy u, by rw [← Act.put_comm a v u h2]; exact he⟩
        | panicked c => exact hQ _ _ _ he
        | outgrown => exact he
      case row row args => exact ⟨h.1, RowsIn.mono h.2 fun u w'' he => ⟨keep a hy u, by rw [← Act.put_comm a v u h2]; exact he⟩⟩
      case round l f tmps assign body =>
        refine ⟨h.1, RoundIn.mono h.2 fun e w'' he => ?_⟩
        cases e with
        | returned u => exact ⟨keep a hy u, by rw [← Act.put_comm a v u h2]; exact he⟩
        | panicked c => exact hQ _ _ _ he
        | outgrown => exact he
    | halt x w' =>
      cases x <;> simp only [Oper.uponIn] at h ⊢
      case panic u => exact hQ _ _ _ h
  · rename_i hw
    simp only [hw] at h
    exact ⟨fun _ _ => trivial, keep a hy _, by rw [← Act.put_comm a v undef h2]; exact h.2⟩


/-- i comes ahead of j in every order. -/
inductive Anc (ops : Array Oper) : Nat → Nat → Prop
  | one {i j : Nat} {o : Oper} {e : Edge} (ho : ops[j]? = some o) (he : e ∈ o.after) (hb : Region.binds .any e = true) (hi : e.on = i) : Anc ops i j
  | more {i j : Nat} {o : Oper} {e : Edge} (ho : ops[j]? = some o) (he : e ∈ o.after) (hb : Region.binds .any e = true) (hi : Anc ops i e.on) : Anc ops i j

/-- What is listed has all that comes ahead of it listed. -/
def Cl (ops : Array Oper) (listed : Array Bool) : Prop :=
  ∀ j o, ops[j]? = some o → listed.getD j true = true → ∀ e ∈ o.after, Region.binds .any e = true → listed.getD e.on false = true

theorem getD_false_true {l : Array Bool} {j : Nat} (h : l.getD j false = true) : l.getD j true = true := by
  rcases Nat.lt_or_ge j l.size with h' | h'
  · simpa [Array.getD, h'] using h
  · simp [Array.getD, show ¬ j < l.size by omega]

theorem Cl.anc {listed : Array Bool} (hc : Cl ops listed) {i j : Nat} (h : Anc ops i j) (hj : listed.getD j true = true) : listed.getD i false = true := by
  induction h with
  | one ho he hb hi => subst hi; exact hc _ _ ho hj _ he hb
  | more ho he hb _ ih => exact ih (getD_false_true (hc _ _ ho hj _ he hb))

theorem Cl.init (ops : Array Oper) : Cl ops (Array.replicate ops.size false) := by
  intro j o ho hj
  have hlt : j < ops.size := (Array.getElem?_eq_some_iff.1 ho).1
  simp [Array.getD, hlt] at hj

theorem Cl.set {listed : Array Bool} (hc : Cl ops listed) {i : Nat} (hr : i ∈ Region.ready .any ops listed) : Cl ops (listed.setIfInBounds i true) := by
  intro j o ho hj e he hb
  by_cases hji : i = j
  · subst hji
    obtain ⟨_, o', ho', hall⟩ := mem_ready.1 hr
    rw [ho] at ho'; cases ho'
    exact getD_set_true (hall e he hb)
  · rw [getD_set_ne true hji] at hj
    exact getD_set_true (hc j o ho hj e he hb)

theorem before_anc (ops : Array Oper) (j i : Nat) (h : ((Region.before ops).getD j 0).testBit i = true) : Anc ops i j := by
  unfold Region.before at h
  have key := Array.foldl_induction (as := ops) (motive := fun k (acc : Array Nat) => k ≤ ops.size → acc.size = k ∧ ∀ m, m < k → ∀ i, (acc.getD m 0).testBit i = true → Anc ops i m)
    (init := #[]) (f := fun acc o => acc.push (o.after.foldl (fun s e => if Region.binds .any e then s ||| 2 ^ e.on ||| acc.getD e.on 0 else s) 0))
    (by intro _; exact ⟨rfl, fun m hm => by omega⟩)
    (by
      intro k acc ih hk
      obtain ⟨hs, hall⟩ := ih (by omega)
      refine ⟨by simp [hs], fun m hm i hi => ?_⟩
      by_cases hmk : m = k.1
      · subst hmk
        have e1 : (acc.push ((ops[k]).after.foldl (fun s e => if Region.binds .any e then s ||| 2 ^ e.on ||| acc.getD e.on 0 else s) 0)).getD k.1 0 =
            (ops[k]).after.foldl (fun s e => if Region.binds .any e then s ||| 2 ^ e.on ||| acc.getD e.on 0 else s) 0 := by
          rw [← hs]; simp [Array.getD]
        rw [e1] at hi
        have ho : ops[k.1]? = some (ops[k]) := by simp
        have inner := Array.foldl_induction (as := (ops[k]).after) (motive := fun _ (s : Nat) => s.testBit i = true → Anc ops i k.1)
          (init := 0) (f := fun s e => if Region.binds .any e then s ||| 2 ^ e.on ||| acc.getD e.on 0 else s)
          (by intro h0; simp at h0)
          (by
            intro q s ihs hb
            split at hb
            · rename_i hbd
              simp only [Nat.testBit_or, Bool.or_eq_true] at hb
              rcases hb with (hb | hb) | hb
              · exact ihs hb
              · have : i = ((ops[k]).after[q]).on := by
                  rw [Nat.testBit_two_pow] at hb
                  have := of_decide_eq_true hb
                  omega
                exact .one ho (Array.getElem_mem q.2) hbd this.symm
              · rcases Nat.lt_or_ge ((ops[k]).after[q]).on k.1 with hlt | hge
                · exact .more ho (Array.getElem_mem q.2) hbd (hall _ hlt i hb)
                · have hz : acc.getD ((ops[k]).after[q]).on 0 = 0 := by
                    have : ¬ ((ops[k]).after[q]).on < acc.size := by omega
                    rw [Array.getD, dif_neg this]
                  rw [hz] at hb; simp at hb
            · exact ihs hb)
        exact inner hi
      · have hmk' : m < k.1 := by omega
        have e1 : (acc.push ((ops[k]).after.foldl (fun s e => if Region.binds .any e then s ||| 2 ^ e.on ||| acc.getD e.on 0 else s) 0)).getD m 0 = acc.getD m 0 := by
          have h1 : m < acc.size := by omega
          have h2 : m < acc.size + 1 := by omega
          simp [Array.getD, h1, h2, Array.getElem_push]
        rw [e1] at hi
        exact hall m hmk' i hi)
  obtain ⟨hs, hall⟩ := key (Nat.le_refl _)
  rcases Nat.lt_or_ge j ops.size with hlt | hge
  · exact hall j hlt i h
  · have hz : ∀ (l : Array Nat), l.size = ops.size → l.getD j 0 = 0 := by
      intro l hl
      have : ¬ j < l.size := by omega
      simp [Array.getD, this]
    rw [hz _ hs] at h
    simp at h

/-- No panic is let out: so that the frame at a panic is of no matter. -/
def Calm (Q : Exit → Env → Rd → World → Prop) : Prop := ∀ ch E E' r w, Q (.panic ch) E r w → Q (.panic ch) E' r w

def noDefer (ops : Array Oper) : Bool := ops.all fun o => match o.op with | .defer .. => false | .select .. => false | _ => true
theorem noDefer_d {ops : Array Oper} (h : noDefer ops = true) (j : Nat) (o : Oper) (d : Call) (ho : ops[j]? = some o) : o.op ≠ .defer d := by
  intro heq
  have := Array.all_eq_true_iff_forall_mem.1 h o (Array.mem_of_getElem? ho)
  simp [heq] at this
theorem noDefer_s {ops : Array Oper} (h : noDefer ops = true) (j : Nat) (o : Oper) (cs : Array SelectCase) (b : Bool) (ho : ops[j]? = some o) : o.op ≠ .select cs b := by
  intro heq
  have := Array.all_eq_true_iff_forall_mem.1 h o (Array.mem_of_getElem? ho)
  simp [heq] at this


/-- The checks of a step, in one: i may come up; whoever else may come up does not touch its slots. -/
def okTake (ops : Array Oper) (listed : Array Bool) (i : Nat) : Bool := noDefer ops && Region.free .any ops listed i && (Region.ready .any ops listed).contains i
def okLoad (ops : Array Oper) (ns : List Nat) (i : Nat) : Bool := !ns.contains i && ns.all fun j => ((Region.before ops).getD j 0).testBit i

theorem Env.of_act (a : Act) : ∃ E : Env, a.tmps = E.act.tmps := by
  refine ⟨⟨a.tmps.size, [], fun t => a.tmps.getD t undef⟩, ?_⟩
  unfold Env.act
  apply Array.ext
  · simp
  · intro i h1 h2
    simp only [Array.size_ofFn] at h2
    rw [Array.getElem_ofFn]
    simp [look, h2]
theorem lift_panic {Q : Exit → Env → Rd → World → Prop} (hq : Calm Q) (ch : List PanicEntry) (a : Act) (d : Option Nat) (v : Value) (w : World) (h : lift Q (.panic ch) (a.put d v) w) : lift Q (.panic ch) a w := by
  obtain ⟨E, r, he, hE⟩ := h
  obtain ⟨E', hE'⟩ := Env.of_act a
  refine ⟨E', r, ?_, hq ch E E' r w hE⟩
  have hd : a.defers = r.df := by
    have := congrArg Act.defers he
    cases d <;> exact this
  unfold Env.acd
  rw [← hd, ← hE']

end
end Pw
namespace Pw
open Go

/-! ## The operations -/
section
variable {P : Program} {E : Env} {d : Option Tmp} {ty : TypeId} {pos : String} {af : Array Edge} {g : Option (Nat × Bool)}

theorem DP.mk {o : Oper} {v : Value} (h1 : ∀ d, o.op ≠ .defer d) (h : ∀ w, (execOp E.eval o).run P w = .ok (.value v) w) : DP P E o v := ⟨h1, h⟩

theorem DP.mv {x : Operand} {v : Value} (h : E.eval x = v) : DP P E ⟨d, .move x, ty, pos, af, g⟩ v := ⟨fun _ => by simp, fun w => by simp [execOp, h]⟩
theorem DP.as {x : Operand} {v : Value} (h : E.eval x = v) : DP P E ⟨d, .assign x, ty, pos, af, g⟩ v := ⟨fun _ => by simp, fun w => by simp [execOp, h]⟩
theorem DP.ex {x : Operand} {vs : Array Value} {i : Nat} {v : Value} (h : E.eval x = .tuple vs) (hv : vs[i]? = some v) : DP P E ⟨d, .extract x i, ty, pos, af, g⟩ v :=
  ⟨fun _ => by simp, fun w => by simp [execOp, Instr.extract, h, hv, go_sem]⟩
theorem DP.nck {x : Operand} {a : Addr} (h : E.eval x = .pointer (some a)) : DP P E ⟨d, .nilCheck x, ty, pos, af, g⟩ (.pointer (some a)) :=
  ⟨fun _ => by simp, fun w => by simp [execOp, h]⟩

/-! ### Whole numbers -/
def _root_.Go.IntKind.lim (k : IntKind) : Nat := if k.signed then 2 ^ (k.bits - 1) else 2 ^ k.bits
theorem wrap_nat {k : IntKind} {n : Nat} (h : n < k.lim) : k.wrap (n : Int) = n := by
  cases k <;> simp [IntKind.lim, IntKind.signed, IntKind.bits] at h <;> simp [IntKind.wrap, IntKind.bits, IntKind.signed] <;> omega
theorem wrap_mod {k : IntKind} (hk : k.signed = false) (n : Int) : k.wrap n = n % (k.lim : Int) := by
  cases k <;> simp [IntKind.signed] at hk <;> simp [IntKind.wrap, IntKind.bits, IntKind.signed, IntKind.lim]
theorem wrap_modN {k : IntKind} (hk : k.signed = false) (n : Nat) : k.wrap (n : Int) = ((n % k.lim : Nat) : Int) := by
  rw [wrap_mod hk]; simp
/-- A number in its kind. -/
def _root_.Go.IntKind.fits (k : IntKind) (x : Int) : Prop := if k.signed then -(k.lim : Int) ≤ x ∧ x < k.lim else 0 ≤ x ∧ x < k.lim
theorem wrap_fits {k : IntKind} {x : Int} (h : k.fits x) : k.wrap x = x := by
  cases k <;> simp [IntKind.fits, IntKind.lim, IntKind.signed, IntKind.bits] at h <;> simp [IntKind.wrap, IntKind.bits, IntKind.signed] <;> (try split) <;> omega

section
variable {k : IntKind} {x y : Operand} {a b : Nat} {t t' : TypeId} {l : Nat}

theorem DP.add (hx : E.eval x = .int k a) (hy : E.eval y = .int k b) (hl : k.lim = l) (h : a + b < l) : DP P E ⟨d, .binOp .add t x y t', ty, pos, af, g⟩ (.int k ((a + b : Nat) : Int)) :=
  ⟨fun _ => by simp, fun w => by
    have e : k.wrap ((a : Int) + b) = ((a + b : Nat) : Int) := by rw [← Int.natCast_add]; exact wrap_nat (hl ▸ h)
    simp only [execOp, hx, hy, eqGuard_add, binOp_add, Op.intArith, e]; simp⟩
theorem DP.addW (hx : E.eval x = .int k a) (hy : E.eval y = .int k b) (hk : k.signed = false) (hl : k.lim = l) : DP P E ⟨d, .binOp .add t x y t', ty, pos, af, g⟩ (.int k (((a + b) % l : Nat) : Int)) :=
  ⟨fun _ => by simp, fun w => by
    have e : k.wrap ((a : Int) + b) = (((a + b) % l : Nat) : Int) := by rw [← Int.natCast_add, wrap_modN hk, hl]
    simp only [execOp, hx, hy, eqGuard_add, binOp_add, Op.intArith, e]; simp⟩
theorem DP.sub (hx : E.eval x = .int k a) (hy : E.eval y = .int k b) (hl : k.lim = l) (h : b ≤ a) (h' : a < l) : DP P E ⟨d, .binOp .sub t x y t', ty, pos, af, g⟩ (.int k ((a - b : Nat) : Int)) :=
  ⟨fun _ => by simp, fun w => by
    have e : k.wrap ((a : Int) - b) = ((a - b : Nat) : Int) := by rw [← Int.natCast_sub h]; exact wrap_nat (by omega)
    simp only [execOp, hx, hy, eqGuard_sub, binOp_sub, Op.intArith, e]; simp⟩
theorem DP.subW (hx : E.eval x = .int k a) (hy : E.eval y = .int k b) (hk : k.signed = false) (hl : k.lim = l) (hb : b ≤ l) : DP P E ⟨d, .binOp .sub t x y t', ty, pos, af, g⟩ (.int k (((a + (l - b)) % l : Nat) : Int)) :=
  ⟨fun _ => by simp, fun w => by
    have e : k.wrap ((a : Int) - b) = (((a + (l - b)) % l : Nat) : Int) := by
      rw [wrap_mod hk, hl]
      have : ((a + (l - b) : Nat) : Int) = (a - b : Int) + l := by omega
      rw [Int.natCast_emod, this, Int.add_emod_right]
    simp only [execOp, hx, hy, eqGuard_sub, binOp_sub, Op.intArith, e]; simp⟩
theorem DP.mul (hx : E.eval x = .int k a) (hy : E.eval y = .int k b) (hl : k.lim = l) (h : a * b < l) : DP P E ⟨d, .binOp .mul t x y t', ty, pos, af, g⟩ (.int k ((a * b : Nat) : Int)) :=
  ⟨fun _ => by simp, fun w => by
    have e : k.wrap ((a : Int) * b) = ((a * b : Nat) : Int) := by rw [← Int.natCast_mul]; exact wrap_nat (hl ▸ h)
    simp only [execOp, hx, hy, eqGuard_mul, binOp_mul, Op.intArith, e]; simp⟩
theorem DP.mulW (hx : E.eval x = .int k a) (hy : E.eval y = .int k b) (hk : k.signed = false) (hl : k.lim = l) : DP P E ⟨d, .binOp .mul t x y t', ty, pos, af, g⟩ (.int k (((a * b) % l : Nat) : Int)) :=
  ⟨fun _ => by simp, fun w => by
    have e : k.wrap ((a : Int) * b) = (((a * b) % l : Nat) : Int) := by rw [← Int.natCast_mul, wrap_modN hk, hl]
    simp only [execOp, hx, hy, eqGuard_mul, binOp_mul, Op.intArith, e]; simp⟩
theorem DP.quo (hx : E.eval x = .int k a) (hy : E.eval y = .int k b) (hb : 0 < b) (hl : k.lim = l) (h : a < l) : DP P E ⟨d, .binOp .quo t x y t', ty, pos, af, g⟩ (.int k ((a / b : Nat) : Int)) :=
  ⟨fun _ => by simp, fun w => by
    have h0 : ¬ (b : Int) = 0 := by omega
    have e : k.wrap ((a : Int).tdiv b) = ((a / b : Nat) : Int) := by
      have h1 : (a : Int).tdiv b = ((a / b : Nat) : Int) := by rw [Int.tdiv_eq_ediv_of_nonneg (by omega)]; simp
      rw [h1]; exact wrap_nat (hl ▸ Nat.lt_of_le_of_lt (Nat.div_le_self a b) h)
    simp only [execOp, hx, hy, eqGuard_quo, binOp_quo, Op.intDiv, if_neg h0, e]; simp⟩
theorem DP.rem (hx : E.eval x = .int k a) (hy : E.eval y = .int k b) (hb : 0 < b) : DP P E ⟨d, .binOp .rem t x y t', ty, pos, af, g⟩ (.int k ((a % b : Nat) : Int)) :=
  ⟨fun _ => by simp, fun w => by
    have h0 : ¬ (b : Int) = 0 := by omega
    have e : ((a : Int).tmod b) = ((a % b : Nat) : Int) := by rw [Int.tmod_eq_emod_of_nonneg (by omega)]; simp
    simp only [execOp, hx, hy, eqGuard_rem, binOp_rem, Op.intDiv, if_neg h0, e]; simp⟩

theorem ofInt_nat (n : Nat) (m : Nat) : BitVec.ofInt m (n : Int) = BitVec.ofNat m n := BitVec.ofInt_natCast m n
theorem lim_le (k : IntKind) : k.lim ≤ 2 ^ k.bits := by cases k <;> decide
theorem bits_lim (k : IntKind) {a b : Nat} (f : Nat → Nat → Nat) (ha : a < k.lim) (hb : b < k.lim) (hf : ∀ n, a < 2 ^ n → b < 2 ^ n → f a b < 2 ^ n) : f a b < k.lim := by
  have : ∃ n, k.lim = 2 ^ n := by cases k <;> exact ⟨_, rfl⟩
  obtain ⟨n, hn⟩ := this
  rw [hn] at ha hb ⊢
  exact hf n ha hb
theorem DP.band (hx : E.eval x = .int k a) (hy : E.eval y = .int k b) (hl : k.lim = l) (ha : a < l) (hb : b < l) : DP P E ⟨d, .binOp .and t x y t', ty, pos, af, g⟩ (.int k ((a &&& b : Nat) : Int)) :=
  ⟨fun _ => by simp, fun w => by
    subst hl
    have hA : a < 2 ^ k.bits := Nat.lt_of_lt_of_le ha (lim_le k)
    have hB : b < 2 ^ k.bits := Nat.lt_of_lt_of_le hb (lim_le k)
    have e : k.wrap (((BitVec.ofInt k.bits (a : Int) &&& BitVec.ofInt k.bits (b : Int)).toNat : Nat) : Int) = ((a &&& b : Nat) : Int) := by
      rw [ofInt_nat, ofInt_nat, BitVec.toNat_and, BitVec.toNat_ofNat, BitVec.toNat_ofNat, Nat.mod_eq_of_lt hA, Nat.mod_eq_of_lt hB]
      exact wrap_nat (bits_lim k (· &&& ·) ha hb fun n h _ => Nat.and_lt_two_pow _ ‹_›)
    simp only [execOp, hx, hy, eqGuard_and, binOp_and, Op.intBits, e]; simp⟩
theorem DP.bor (hx : E.eval x = .int k a) (hy : E.eval y = .int k b) (hl : k.lim = l) (ha : a < l) (hb : b < l) : DP P E ⟨d, .binOp .or t x y t', ty, pos, af, g⟩ (.int k ((a ||| b : Nat) : Int)) :=
  ⟨fun _ => by simp, fun w => by
    subst hl
    have hA : a < 2 ^ k.bits := Nat.lt_of_lt_of_le ha (lim_le k)
    have hB : b < 2 ^ k.bits := Nat.lt_of_lt_of_le hb (lim_le k)
    have e : k.wrap (((BitVec.ofInt k.bits (a : Int) ||| BitVec.ofInt k.bits (b : Int)).toNat : Nat) : Int) = ((a ||| b : Nat) : Int) := by
      rw [ofInt_nat, ofInt_nat, BitVec.toNat_or, BitVec.toNat_ofNat, BitVec.toNat_ofNat, Nat.mod_eq_of_lt hA, Nat.mod_eq_of_lt hB]
      exact wrap_nat (bits_lim k (· ||| ·) ha hb fun n h h' => Nat.or_lt_two_pow h h')
    simp only [execOp, hx, hy, eqGuard_or, binOp_or, Op.intBits, e]; simp⟩
theorem DP.bxor (hx : E.eval x = .int k a) (hy : E.eval y = .int k b) (hl : k.lim = l) (ha : a < l) (hb : b < l) : DP P E ⟨d, .binOp .xor t x y t', ty, pos, af, g⟩ (.int k ((a ^^^ b : Nat) : Int)) :=
  ⟨fun _ => by simp, fun w => by
    subst hl
    have hA : a < 2 ^ k.bits := Nat.lt_of_lt_of_le ha (lim_le k)
    have hB : b < 2 ^ k.bits := Nat.lt_of_lt_of_le hb (lim_le k)
    have e : k.wrap (((BitVec.ofInt k.bits (a : Int) ^^^ BitVec.ofInt k.bits (b : Int)).toNat : Nat) : Int) = ((a ^^^ b : Nat) : Int) := by
      rw [ofInt_nat, ofInt_nat, BitVec.toNat_xor, BitVec.toNat_ofNat, BitVec.toNat_ofNat, Nat.mod_eq_of_lt hA, Nat.mod_eq_of_lt hB]
      exact wrap_nat (bits_lim k (· ^^^ ·) ha hb fun n h h' => Nat.xor_lt_two_pow h h')
    simp only [execOp, hx, hy, eqGuard_xor, binOp_xor, Op.intBits, e]; simp⟩

theorem DP.shl {k' : IntKind} (hx : E.eval x = .int k a) (hy : E.eval y = .int k' b) (hk : k.signed = false) (hl : k.lim = l) : DP P E ⟨d, .binOp .shl t x y t', ty, pos, af, g⟩ (.int k ((a * 2 ^ b % l : Nat) : Int)) :=
  ⟨fun _ => by simp, fun w => by
    have e : k.wrap ((a : Int) * 2 ^ (min (b : Int).toNat k.bits)) = ((a * 2 ^ b % l : Nat) : Int) := by
      have e1 : ((a : Int) * 2 ^ (min (b : Int).toNat k.bits)) = ((a * 2 ^ (min b k.bits) : Nat) : Int) := by simp
      rw [e1, wrap_modN hk, hl]
      congr 1
      have hlim : l = 2 ^ k.bits := by rw [← hl]; cases k <;> simp [IntKind.signed] at hk <;> rfl
      rw [hlim]
      rcases Nat.le_total b k.bits with h | h
      · rw [Nat.min_eq_left h]
      · rw [Nat.min_eq_right h]
        have : 2 ^ b = 2 ^ k.bits * 2 ^ (b - k.bits) := by rw [← Nat.pow_add]; congr 1; omega
        rw [this, Nat.mul_mod_left, ← Nat.mul_assoc, Nat.mul_comm a, Nat.mul_assoc, Nat.mul_mod_right]
    simp only [execOp, hx, hy, eqGuard_shl, binOp_shl, Op.shift, if_neg (show ¬ ((b : Nat) : Int) < 0 by omega), e]; simp⟩
theorem DP.shr {k' : IntKind} (hx : E.eval x = .int k a) (hy : E.eval y = .int k' b) (hl : k.lim = l) (ha : a < l) : DP P E ⟨d, .binOp .shr t x y t', ty, pos, af, g⟩ (.int k ((a / 2 ^ b : Nat) : Int)) :=
  ⟨fun _ => by simp, fun w => by
    subst hl
    have e : (a : Int).fdiv (2 ^ (min (b : Int).toNat k.bits)) = ((a / 2 ^ b : Nat) : Int) := by
      have e1 : ((2 : Int) ^ (min (b : Int).toNat k.bits)) = ((2 ^ (min b k.bits) : Nat) : Int) := by simp
      rw [e1, Int.fdiv_eq_ediv_of_nonneg _ (Int.natCast_nonneg _), ← Int.natCast_ediv]
      congr 1
      rcases Nat.le_total b k.bits with h | h
      · rw [Nat.min_eq_left h]
      · rw [Nat.min_eq_right h]
        have hA : a < 2 ^ k.bits := Nat.lt_of_lt_of_le ha (lim_le k)
        have hB : a < 2 ^ b := Nat.lt_of_lt_of_le hA (Nat.pow_le_pow_right (by omega) h)
        rw [Nat.div_eq_of_lt hA, Nat.div_eq_of_lt hB]
    simp only [execOp, hx, hy, eqGuard_shr, binOp_shr, Op.shift, if_neg (show ¬ ((b : Nat) : Int) < 0 by omega), e]; simp⟩

/-! comparisons -/
theorem DP.lss (hx : E.eval x = .int k a) (hy : E.eval y = .int k b) : DP P E ⟨d, .binOp .lss t x y t', ty, pos, af, g⟩ (.bool (decide (a < b))) :=
  ⟨fun _ => by simp, fun w => by simp only [execOp, hx, hy, eqGuard_lss, binOp_lss]; simp⟩
theorem DP.leq (hx : E.eval x = .int k a) (hy : E.eval y = .int k b) : DP P E ⟨d, .binOp .leq t x y t', ty, pos, af, g⟩ (.bool (decide (a ≤ b))) :=
  ⟨fun _ => by simp, fun w => by simp only [execOp, hx, hy, eqGuard_leq, binOp_leq]; simp⟩
theorem DP.gtr (hx : E.eval x = .int k a) (hy : E.eval y = .int k b) : DP P E ⟨d, .binOp .gtr t x y t', ty, pos, af, g⟩ (.bool (decide (b < a))) :=
  ⟨fun _ => by simp, fun w => by simp only [execOp, hx, hy, eqGuard_gtr, binOp_gtr]; simp⟩
theorem DP.geq (hx : E.eval x = .int k a) (hy : E.eval y = .int k b) : DP P E ⟨d, .binOp .geq t x y t', ty, pos, af, g⟩ (.bool (decide (b ≤ a))) :=
  ⟨fun _ => by simp, fun w => by simp only [execOp, hx, hy, eqGuard_geq, binOp_geq]; simp⟩
theorem DP.eql (hx : E.eval x = .int k a) (hy : E.eval y = .int k b) : DP P E ⟨d, .binOp .eql t x y t', ty, pos, af, g⟩ (.bool (decide (a = b))) :=
  ⟨fun _ => by simp, fun w => by
    have e : ((a : Int) == b) = decide (a = b) := by by_cases h : a = b <;> simp [h]; omega
    simp only [execOp, hx, hy, eqGuard_at_int, binOp_eql, e]; simp⟩
theorem DP.neq (hx : E.eval x = .int k a) (hy : E.eval y = .int k b) : DP P E ⟨d, .binOp .neq t x y t', ty, pos, af, g⟩ (.bool (decide (a ≠ b))) :=
  ⟨fun _ => by simp, fun w => by
    have e : ((a : Int) != b) = decide (a ≠ b) := by by_cases h : a = b <;> simp [h]; omega
    simp only [execOp, hx, hy, eqGuard_at_int, binOp_neq, e]; simp⟩
end

/-! the same of any whole numbers -/
section
variable {k : IntKind} {x y : Operand} {a b : Int} {t t' : TypeId}
theorem DP.addI (hx : E.eval x = .int k a) (hy : E.eval y = .int k b) (h : k.fits (a + b)) : DP P E ⟨d, .binOp .add t x y t', ty, pos, af, g⟩ (.int k (a + b)) :=
  ⟨fun _ => by simp, fun w => by simp only [execOp, hx, hy, eqGuard_add, binOp_add, Op.intArith, wrap_fits h]; simp⟩
theorem DP.addX (hx : E.eval x = .int k a) (hy : E.eval y = .int k b) : DP P E ⟨d, .binOp .add t x y t', ty, pos, af, g⟩ (.int k (k.wrap (a + b))) :=
  ⟨fun _ => by simp, fun w => by simp only [execOp, hx, hy, eqGuard_add, binOp_add, Op.intArith]; simp⟩
theorem DP.subI (hx : E.eval x = .int k a) (hy : E.eval y = .int k b) (h : k.fits (a - b)) : DP P E ⟨d, .binOp .sub t x y t', ty, pos, af, g⟩ (.int k (a - b)) :=
  ⟨fun _ => by simp, fun w => by simp only [execOp, hx, hy, eqGuard_sub, binOp_sub, Op.intArith, wrap_fits h]; simp⟩
theorem DP.subX (hx : E.eval x = .int k a) (hy : E.eval y = .int k b) : DP P E ⟨d, .binOp .sub t x y t', ty, pos, af, g⟩ (.int k (k.wrap (a - b))) :=
  ⟨fun _ => by simp, fun w => by simp only [execOp, hx, hy, eqGuard_sub, binOp_sub, Op.intArith]; simp⟩
theorem DP.mulI (hx : E.eval x = .int k a) (hy : E.eval y = .int k b) (h : k.fits (a * b)) : DP P E ⟨d, .binOp .mul t x y t', ty, pos, af, g⟩ (.int k (a * b)) :=
  ⟨fun _ => by simp, fun w => by simp only [execOp, hx, hy, eqGuard_mul, binOp_mul, Op.intArith, wrap_fits h]; simp⟩
theorem DP.mulX (hx : E.eval x = .int k a) (hy : E.eval y = .int k b) : DP P E ⟨d, .binOp .mul t x y t', ty, pos, af, g⟩ (.int k (k.wrap (a * b))) :=
  ⟨fun _ => by simp, fun w => by simp only [execOp, hx, hy, eqGuard_mul, binOp_mul, Op.intArith]; simp⟩
theorem DP.lssI (hx : E.eval x = .int k a) (hy : E.eval y = .int k b) : DP P E ⟨d, .binOp .lss t x y t', ty, pos, af, g⟩ (.bool (decide (a < b))) :=
  ⟨fun _ => by simp, fun w => by simp only [execOp, hx, hy, eqGuard_lss, binOp_lss]; simp⟩
theorem DP.leqI (hx : E.eval x = .int k a) (hy : E.eval y = .int k b) : DP P E ⟨d, .binOp .leq t x y t', ty, pos, af, g⟩ (.bool (decide (a ≤ b))) :=
  ⟨fun _ => by simp, fun w => by simp only [execOp, hx, hy, eqGuard_leq, binOp_leq]; simp⟩
theorem DP.gtrI (hx : E.eval x = .int k a) (hy : E.eval y = .int k b) : DP P E ⟨d, .binOp .gtr t x y t', ty, pos, af, g⟩ (.bool (decide (b < a))) :=
  ⟨fun _ => by simp, fun w => by simp only [execOp, hx, hy, eqGuard_gtr, binOp_gtr]; simp⟩
theorem DP.geqI (hx : E.eval x = .int k a) (hy : E.eval y = .int k b) : DP P E ⟨d, .binOp .geq t x y t', ty, pos, af, g⟩ (.bool (decide (b ≤ a))) :=
  ⟨fun _ => by simp, fun w => by simp only [execOp, hx, hy, eqGuard_geq, binOp_geq]; simp⟩
theorem DP.eqlI (hx : E.eval x = .int k a) (hy : E.eval y = .int k b) : DP P E ⟨d, .binOp .eql t x y t', ty, pos, af, g⟩ (.bool (decide (a = b))) :=
  ⟨fun _ => by simp, fun w => by
    have e : (a == b) = decide (a = b) := by by_cases h : a = b <;> simp [h]
    simp only [execOp, hx, hy, eqGuard_at_int, binOp_eql, e]; simp⟩
theorem DP.neqI (hx : E.eval x = .int k a) (hy : E.eval y = .int k b) : DP P E ⟨d, .binOp .neq t x y t', ty, pos, af, g⟩ (.bool (decide (a ≠ b))) :=
  ⟨fun _ => by simp, fun w => by
    have e : (a != b) = decide (a ≠ b) := by by_cases h : a = b <;> simp [h]
    simp only [execOp, hx, hy, eqGuard_at_int, binOp_neq, e]; simp⟩
end
theorem DP.not {x : Operand} {b : Bool} {t : TypeId} (hx : E.eval x = .bool b) : DP P E ⟨d, .unOp .not t x, ty, pos, af, g⟩ (.bool (!b)) :=
  ⟨fun _ => by simp, fun w => by simp [execOp, hx, Op.unary]⟩
theorem run_equalIn_bool {t : TypeId} (n : Nat) (a b : Bool) (ht : P.underlying t = some .bool) (w : World) : (Op.equalIn (n + 1) t (.bool a) (.bool b)).run P w = .ok (a == b) w := by
  simp [Op.equalIn, run_underlying ht]
theorem run_equal_bool {t : TypeId} (a b : Bool) (ht : P.underlying t = some .bool) (w : World) : (Op.equal t (.bool a) (.bool b)).run P w = .ok (a == b) w := run_equalIn_bool 9999 a b ht w
theorem DP.beql {x y : Operand} {a b : Bool} {t t' : TypeId} (hx : E.eval x = .bool a) (hy : E.eval y = .bool b) (ht : P.underlying t = some .bool) : DP P E ⟨d, .binOp .eql t x y t', ty, pos, af, g⟩ (.bool (a == b)) :=
  ⟨fun _ => by simp, fun w => by
    simp only [execOp, hx, hy, eqGuard_at_bool, binOp, Sem.run_bind, Sem.run_pure, Result.andThen_ok, run_equal_bool a b ht]⟩
theorem DP.bneq {x y : Operand} {a b : Bool} {t t' : TypeId} (hx : E.eval x = .bool a) (hy : E.eval y = .bool b) (ht : P.underlying t = some .bool) : DP P E ⟨d, .binOp .neq t x y t', ty, pos, af, g⟩ (.bool (!(a == b))) :=
  ⟨fun _ => by simp, fun w => by
    simp only [execOp, hx, hy, eqGuard_at_bool, binOp, Sem.run_bind, Sem.run_pure, Result.andThen_ok, run_equal_bool a b ht]⟩

/-! ### Conversions of numbers -/
section
variable {k k' : IntKind} {x : Operand} {a : Nat} {t t' : TypeId} {l : Nat}
theorem run_cv (hs : (P.underlying t).isSome = true) (ht : P.underlying t' = some (.int k)) (n : Int) (w : World) : (convert t t' (.int k' n)).run P w = .ok (.int k (k.wrap n)) w := by
  obtain ⟨ds, hds⟩ := Option.isSome_iff_exists.1 hs
  simp [convert, run_underlying hds, run_underlying ht, Conv.intToInt]
theorem DP.cv (hx : E.eval x = .int k' a) (hs : (P.underlying t).isSome = true) (ht : P.underlying t' = some (.int k)) (hl : k.lim = l) (h : a < l) : DP P E ⟨d, .convert t t' x, ty, pos, af, g⟩ (.int k (a : Int)) :=
  ⟨fun _ => by simp, fun w => by simp [execOp, hx, run_cv hs ht, wrap_nat (hl ▸ h)]⟩
theorem DP.cvW (hx : E.eval x = .int k' a) (hs : (P.underlying t).isSome = true) (ht : P.underlying t' = some (.int k)) (hk : k.signed = false) (hl : k.lim = l) : DP P E ⟨d, .convert t t' x, ty, pos, af, g⟩ (.int k ((a % l : Nat) : Int)) :=
  ⟨fun _ => by simp, fun w => by simp [execOp, hx, run_cv hs ht, wrap_modN hk, hl]⟩
theorem DP.cvI {a : Int} (hx : E.eval x = .int k' a) (hs : (P.underlying t).isSome = true) (ht : P.underlying t' = some (.int k)) (h : k.fits a) : DP P E ⟨d, .convert t t' x, ty, pos, af, g⟩ (.int k a) :=
  ⟨fun _ => by simp, fun w => by simp [execOp, hx, run_cv hs ht, wrap_fits h]⟩
theorem DP.cvX {a : Int} (hx : E.eval x = .int k' a) (hs : (P.underlying t).isSome = true) (ht : P.underlying t' = some (.int k)) : DP P E ⟨d, .convert t t' x, ty, pos, af, g⟩ (.int k (k.wrap a)) :=
  ⟨fun _ => by simp, fun w => by simp [execOp, hx, run_cv hs ht]⟩
end
end
end Pw
namespace Pw
open Go

/-! ## Memory -/
section
variable {P : Program} {r : Rd} {c : Ctx} {L : List Assn} {E : Env} {d : Option Tmp} {ty : TypeId} {pos : String} {af : Array Edge} {g : Option (Nat × Bool)}

/-- The place is not frozen. -/
def notIn (fr : Nat × Nat) (o : Nat) : Prop := fr.1 = fr.2 ∨ o < fr.1
theorem notIn.zero (o : Nat) : notIn (0, 0) o := .inl rfl
theorem notIn.below {m n o : Nat} (h : o < m) : notIn (m, n) o := .inr h
/-- Block b holds these cells, of type e; all may be written. -/
def row (e : TypeId) (b : Nat) (cs : List Value) : Assn := fun f => ∃ fr : Nat × Nat, (∀ o, o < cs.length → notIn fr o) ∧ f b = some (.cells cs.toArray e fr)
theorem row.mk {e : TypeId} {b : Nat} {cs : List Value} {f : Frag} (h : pt b (.cells cs.toArray e (0, 0)) f) : row e b cs f := ⟨(0, 0), fun o _ => notIn.zero o, h⟩
theorem Reads.row {e : TypeId} {b o : Nat} {cs : List Value} {v : Value} (h : cs[o]? = some v) : Reads (row e b cs) ⟨b, o, none⟩ v := by
  intro f w ⟨fr, _, ha⟩ hf
  have := hf b _ ha
  simp [World.cell?, this, h]
theorem SL.row {e : TypeId} {b : Nat} {cs : List Value} {w : World} {R : List Assn} (h : SL c (row e b cs :: R) w) :
    ∃ fr : Nat × Nat, (∀ o, o < cs.length → notIn fr o) ∧ SL c (pt b (.cells cs.toArray e fr) :: R) w := by
  obtain ⟨e1, e2, e3, f1, f2, hd, h1, h2, ⟨fr, hfr, ha⟩, hl⟩ := h
  exact ⟨fr, hfr, e1, e2, e3, f1, f2, hd, h1, h2, ha, hl⟩
theorem SL.toRow {e : TypeId} {b : Nat} {cs : List Value} {fr : Nat × Nat} {w : World} {R : List Assn} (hf : ∀ o, o < cs.length → notIn fr o) (h : SL c (pt b (.cells cs.toArray e fr) :: R) w) : SL c (Pw.row e b cs :: R) w := by
  obtain ⟨e1, e2, e3, f1, f2, hd, h1, h2, ha, hl⟩ := h
  exact ⟨e1, e2, e3, f1, f2, hd, h1, h2, ⟨fr, hf, ha⟩, hl⟩

/-! ### Types: what is asked of the program's table -/
theorem run_isAgg_no {t : TypeId} {ds : TypeDesc} (ht : P.underlying t = some ds) (hn : (match ds with | .struct _ | .array _ _ => true | _ => false) = false) (w : World) : (isAgg t).run P w = .ok false w := by
  unfold isAgg
  simp only [Sem.run_bind, run_underlying ht, Result.andThen_ok]
  cases ds <;> first | rfl | cases hn
theorem run_isAgg_yes {t : TypeId} {ds : TypeDesc} (ht : P.underlying t = some ds) (hn : (match ds with | .struct _ | .array _ _ => true | _ => false) = true) (w : World) : (isAgg t).run P w = .ok true w := by
  unfold isAgg
  simp only [Sem.run_bind, run_underlying ht, Result.andThen_ok]
  cases ds <;> first | rfl | cases hn

/-- A type whose values are one cell. -/
def plainT (P : Program) (t : TypeId) : Bool := match P.underlying t with | some (.struct _) | some (.array _ _) | none => false | some _ => true
theorem run_isAgg_plain {t : TypeId} (h : plainT P t = true) (w : World) : (isAgg t).run P w = .ok false w := by
  unfold plainT at h
  cases ht : P.underlying t with
  | none => simp [ht] at h
  | some ds => exact run_isAgg_no ht (by cases ds <;> first | rfl | (simp [ht] at h)) w
/-- A struct's or an array's type. -/
def aggT (P : Program) (t : TypeId) : Bool := match P.underlying t with | some (.struct _) | some (.array _ _) => true | _ => false
theorem run_isAgg_agg {t : TypeId} (h : aggT P t = true) (w : World) : (isAgg t).run P w = .ok true w := by
  unfold aggT at h
  cases ht : P.underlying t with
  | none => simp [ht] at h
  | some ds => exact run_isAgg_yes ht (by cases ds <;> first | rfl | (simp [ht] at h)) w

theorem run_sizeOf {t : TypeId} {n : Nat} (h : P.cellsOf t = n + 1) (w : World) : (Go.sizeOf t).run P w = .ok (n + 1) w := by
  unfold Program.cellsOf at h
  cases hi : P.info? t with
  | none => simp [hi] at h
  | some i =>
    simp only [hi, Option.map_some, Option.getD_some] at h
    simp [Go.sizeOf, typeInfo, hi, h]

/-! ### Loads -/
/-- One cell. -/
theorem D.ld {x : Operand} {b o : Nat} {v : Value} {t : TypeId} {A : Assn} (hx : E.eval x = .pointer (some ⟨b, o, none⟩)) (ht : plainT P t = true) (hm : LMem A L) (hr : Reads A ⟨b, o, none⟩ v) : D P c L E ⟨d, .load t x, ty, pos, af, g⟩ v :=
  ⟨fun _ => by simp, fun w hw => by
    have hc := hw.reads hm hr
    simp [execOp, hx, Instr.loadAt, Instr.sureAddr, loadVar, run_isAgg_plain ht, hc]⟩

/-- n cells from a place on. -/
def ReadsN (A : Assn) (b o : Nat) (vs : List Value) : Prop := ∀ i v, vs[i]? = some v → Reads A ⟨b, o + i, none⟩ v
theorem ReadsN.cells {b o : Nat} {t : TypeId} {cs : Array Value} {fr : Nat × Nat} {vs : List Value} (h : ∀ i v, vs[i]? = some v → cs[o + i]? = some v) : ReadsN (pt b (.cells cs t fr)) b o vs :=
  fun i v hv => Reads.cells (h i v hv)
theorem ReadsN.row {e : TypeId} {b o : Nat} {cs vs : List Value} (h : ∀ i v, vs[i]? = some v → cs[o + i]? = some v) : ReadsN (Pw.row e b cs) b o vs := fun i v hv => Reads.row (h i v hv)
theorem ReadsN.rowAll {e : TypeId} {b : Nat} {cs : List Value} : ReadsN (Pw.row e b cs) b 0 cs := ReadsN.row fun i v hv => by simpa using hv
theorem ReadsN.all {b : Nat} {t : TypeId} {l : List Value} {fr : Nat × Nat} : ReadsN (pt b (.cells l.toArray t fr)) b 0 l :=
  ReadsN.cells fun i v hv => by simpa using hv

theorem run_loadCells' {w : World} {b o : Nat} {vs : List Value} (h : ∀ i v, vs[i]? = some v → w.cell? ⟨b, o + i, none⟩ = some v) : (loadCells ⟨b, o, none⟩ vs.length).run P w = .ok vs.toArray w := by
  have := run_loadCells_list (P := P) (w := w) ⟨b, o, none⟩ vs (fun j v hv => by rw [Addr.add_lit]; exact h j v hv)
  exact this

theorem D.ldA {x : Operand} {b o : Nat} {vs : List Value} {t : TypeId} {n : Nat} {A : Assn} (hx : E.eval x = .pointer (some ⟨b, o, none⟩)) (ht : aggT P t = true) (hi : P.cellsOf t = n + 1)
    (hm : LMem A L) (hr : ReadsN A b o vs) (hn : vs.length = n + 1) : D P c L E ⟨d, .load t x, ty, pos, af, g⟩ (.agg vs.toArray) :=
  ⟨fun _ => by simp, fun w hw => by
    have hc := run_loadCells' (P := P) (w := w) (b := b) (o := o) (vs := vs) (fun i v hv => hw.reads hm (hr i v hv))
    rw [hn] at hc
    simp [execOp, hx, Instr.loadAt, Instr.sureAddr, loadVar, run_isAgg_agg ht, run_sizeOf hi, hc]⟩

/-! ### Stores -/
/-- What is left to the operation is done; it yields nothing. -/
theorem N.skip {o : Oper} (hd : ∀ d, o.op ≠ .defer d) {L' : List Assn} (h : ∀ w, SL c L w → ∃ w', (execOp E.eval o).run P w = .ok .skip w' ∧ SL c L' w') : N P r c L E o (fun v L'' => v = undef ∧ L'' = L') := fun w hw K Q hK => by
  refine ⟨fun _ _ => trivial, ?_⟩
  obtain ⟨w', h1, h2⟩ := h w hw
  rw [Oper.semAt_eq _ _ _ hd, E.acd_eval, h1]
  exact hK undef L' w' ⟨rfl, rfl⟩ h2
theorem N.value {o : Oper} (hd : ∀ d, o.op ≠ .defer d) {Φ : Value → List Assn → Prop} (h : ∀ w, SL c L w → ∃ v L' w', (execOp E.eval o).run P w = .ok (.value v) w' ∧ Φ v L' ∧ SL c L' w') : N P r c L E o Φ := fun w hw K Q hK => by
  refine ⟨fun _ _ => trivial, ?_⟩
  obtain ⟨v, L', w', h1, h2, h3⟩ := h w hw
  rw [Oper.semAt_eq _ _ _ hd, E.acd_eval, h1]
  exact hK v L' w' h2 h3

theorem run_store1 {w : World} {b o : Nat} {v u : Value} {m : Mode} (hv : v.oneCell' = true) (hc : w.cell? ⟨b, o, none⟩ = some u) (hf : w.frozen? ⟨b, o, none⟩ = false) : (store ⟨b, o, none⟩ v m).run P w = .ok () (w.setCell ⟨b, o, none⟩ v) := by
  rw [run_store P w _ v m hv]
  simp [hc, hf]

theorem frozen_of {w : World} {b o : Nat} {cs : Array Value} {t : TypeId} {fr : Nat × Nat} (h : w.heap[b]? = some (.cells cs t fr)) (hf : notIn fr o) : w.frozen? ⟨b, o, none⟩ = false := by
  obtain ⟨lo, hi⟩ := fr
  simp only [World.frozen?, h]
  simp only [notIn] at hf
  have hf' : ¬ (lo ≤ o ∧ o < hi) := by omega
  by_cases h1 : lo ≤ o <;> by_cases h2 : o < hi <;> simp_all

theorem N.st {x y : Operand} {b o : Nat} {v : Value} {t et : TypeId} {cs : List Value} {L' : List Assn}
    (hx : E.eval x = .pointer (some ⟨b, o, none⟩)) (hy : E.eval y = v) (hi : P.cellsOf t = 1)
    (hp : Put (row et b cs) L (row et b (cs.set o v)) L') (ho : o < cs.length) (hv : v.oneCell' = true) :
    N P r c L E ⟨d, .store t x y, ty, pos, af, g⟩ (fun u L'' => u = undef ∧ L'' = L') := by
  refine N.skip (fun _ => by simp) fun w hw => ?_
  obtain ⟨R, h1, h2⟩ := hp.del
  obtain ⟨fr, hfr, hw1⟩ := SL.row (hw.perm h1)
  have hb := hw1.heap (.head _ _)
  refine ⟨w.setCell ⟨b, o, none⟩ v, ?_, ?_⟩
  · have hcell : w.cell? ⟨b, o, none⟩ = some (cs[o]) := by simp [World.cell?, hb, ho]
    have hvc : v.cells = #[v] := by cases v <;> first | rfl | (simp [Value.oneCell'] at hv)
    have hz : ¬ v.cells.size ≠ 0 + 1 := by rw [hvc]; simp
    simp only [execOp, hx, hy, Instr.storeAt, Instr.sureAddr, storeVar]
    simp only [Sem.run_bind, Sem.run_pure, Result.andThen_ok, run_sizeOf hi, Sem.run_ite, if_neg hz]
    rw [hvc]
    simp only [Go.storeCells, Sem.run_bind]
    rw [show (⟨b, o, none⟩ : Addr).add 0 = ⟨b, o, none⟩ from rfl, run_store1 hv hcell (frozen_of hb (hfr o ho))]
    simp
  · have h3 := hw1.setCell (i := o) v
    rw [List.setIfInBounds_toArray] at h3
    exact (SL.toRow (fun k hk => hfr k (by simpa using hk)) h3).perm h2.symm

/-! several cells -/
def setAll (cs : List Value) (o : Nat) : List Value → List Value
  | [] => cs
  | v :: vs => setAll (cs.set o v) (o + 1) vs
theorem length_setAll : ∀ (vs : List Value) (cs : List Value) (o : Nat), (setAll cs o vs).length = cs.length
  | [], _, _ => rfl
  | _ :: vs, _, _ => by rw [setAll, length_setAll vs]; simp
theorem setAll_eq : ∀ (vs cs : List Value) (o : Nat), o + vs.length ≤ cs.length → setAll cs o vs = cs.take o ++ vs ++ cs.drop (o + vs.length)
  | [], cs, o, _ => by simp [setAll]
  | v :: vs, cs, o, h => by
    simp only [List.length_cons] at h
    rw [setAll, setAll_eq vs (cs.set o v) (o + 1) (by simp; omega)]
    have hlt : o < cs.length := by omega
    rw [List.take_succ_eq_append_getElem (by simpa using hlt), List.take_set_of_le (Nat.le_refl o), List.getElem_set_self, List.drop_set_of_lt (by omega)]
    simp [Nat.add_assoc, Nat.add_comm 1]

theorem SL.storeCells {b : Nat} {e : TypeId} : ∀ (vs cs : List Value) (o k : Nat) (w : World) (R : List Assn), SL c (Pw.row e b cs :: R) w → (∀ v ∈ vs, v.oneCell' = true) → o + k + vs.length ≤ cs.length →
    ∃ w', (Go.storeCells ⟨b, o, none⟩ vs k).run P w = .ok () w' ∧ SL c (Pw.row e b (setAll cs (o + k) vs) :: R) w'
  | [], cs, o, k, w, R, hw, _, _ => ⟨w, rfl, hw⟩
  | v :: vs, cs, o, k, w, R, hw, hv, hl => by
    obtain ⟨fr, hfr, hw1⟩ := SL.row hw
    have hb := hw1.heap (.head _ _)
    simp only [List.length_cons] at hl
    have ho : o + k < cs.length := by omega
    have hcell : w.cell? ⟨b, o + k, none⟩ = some (cs[o + k]) := by simp [World.cell?, hb, ho]
    have h3 := hw1.setCell (i := o + k) v
    rw [List.setIfInBounds_toArray] at h3
    have h4 := SL.toRow (e := e) (fun j hj => hfr j (by simpa using hj)) h3
    obtain ⟨w', h1, h2⟩ := SL.storeCells vs (cs.set (o + k) v) o (k + 1) (w.setCell ⟨b, o + k, none⟩ v) R h4 (fun u hu => hv u (by simp [hu])) (by simp; omega)
    refine ⟨w', ?_, by rw [setAll]; exact h2⟩
    simp only [Go.storeCells, Sem.run_bind]
    rw [Addr.add_lit, run_store1 (hv v (by simp)) hcell (frozen_of hb (hfr _ ho))]
    exact h1

theorem N.stA {x y : Operand} {b o : Nat} {vs : List Value} {t et : TypeId} {cs : List Value} {L' : List Assn} {n : Nat}
    (hx : E.eval x = .pointer (some ⟨b, o, none⟩)) (hy : E.eval y = .agg vs.toArray) (hi : P.cellsOf t = n + 1)
    (hp : Put (row et b cs) L (row et b (setAll cs o vs)) L') (ho : o + vs.length ≤ cs.length) (hv : ∀ v ∈ vs, v.oneCell' = true) (hs : vs.length = n + 1) :
    N P r c L E ⟨d, .store t x y, ty, pos, af, g⟩ (fun u L'' => u = undef ∧ L'' = L') := by
  refine N.skip (fun _ => by simp) fun w hw => ?_
  obtain ⟨R, h1, h2⟩ := hp.del
  obtain ⟨w', k1, k2⟩ := SL.storeCells (P := P) vs cs o 0 w R (hw.perm h1) hv (by omega)
  refine ⟨w', ?_, k2.perm (by simpa using h2.symm)⟩
  have hz : ¬ (Value.agg vs.toArray).cells.size ≠ n + 1 := by simp [Value.cells, hs]
  simp only [execOp, hx, hy, Instr.storeAt, Instr.sureAddr, storeVar]
  simp only [Sem.run_bind, Sem.run_pure, Result.andThen_ok, run_sizeOf hi, Sem.run_ite, if_neg hz]
  simp only [Value.cells]
  rw [k1]
  simp

/-! ### New blocks -/
def _root_.Go.Program.zeroOf (P : Program) (t : TypeId) : Option Value := (P.info? t).bind (·.zero)
theorem run_zeroValue {t : TypeId} {z : Value} (hz : P.zeroOf t = some z) (w : World) : (zeroValue t).run P w = .ok z w := by
  unfold Program.zeroOf at hz
  cases hi : P.info? t with
  | none => simp [hi] at hz
  | some i => simp only [hi, Option.bind_some] at hz; simp [zeroValue, typeInfo, hi, hz]
theorem N.al {t : TypeId} {z : Value} {cs : List Value} (hz : P.zeroOf t = some z) (hc : z.cells = cs.toArray) : N P r c L E ⟨d, .alloc t, ty, pos, af, g⟩ (fun v L' => ∃ b, v = .pointer (some ⟨b, 0, none⟩) ∧ L' = row t b cs :: L) := by
  refine N.value (fun _ => by simp) fun w hw => ?_
  refine ⟨.pointer (some ⟨w.heap.size, 0, none⟩), _, w.alloc (.cells cs.toArray t (0, 0)), ?_, ⟨w.heap.size, rfl, rfl⟩, SL.toRow (fun o _ => notIn.zero o) (hw.alloc _)⟩
  simp [execOp, Instr.alloc, run_zeroValue hz, newVar, newRow, hc]
theorem N.bx {t : TypeId} {x : Operand} {v : Value} {cs : List Value} (hx : E.eval x = v) (hc : v.cells = cs.toArray) : N P r c L E ⟨d, .box t x, ty, pos, af, g⟩ (fun v L' => ∃ b, v = .pointer (some ⟨b, 0, none⟩) ∧ L' = row t b cs :: L) := by
  refine N.value (fun _ => by simp) fun w hw => ?_
  refine ⟨.pointer (some ⟨w.heap.size, 0, none⟩), _, w.alloc (.cells cs.toArray t (0, 0)), ?_, ⟨w.heap.size, rfl, rfl⟩, SL.toRow (fun o _ => notIn.zero o) (hw.alloc _)⟩
  simp [execOp, hx, Instr.box, newVar, newRow, hc]

/-! ### Addresses -/
theorem DP.fa (fo : Nat) {x : Operand} {b o n : Nat} {t : TypeId} {k : Nat} {fs : Array Field} {f : Field} (hx : E.eval x = .pointer (some ⟨b, o, none⟩)) (ht : P.underlying t = some (.struct fs)) (hf : fs[k]? = some f) (hfo : f.offset = fo) (hz : P.cellsOf f.type = n + 1) :
    DP P E ⟨d, .fieldAddr t x k, ty, pos, af, g⟩ (.pointer (some ⟨b, o + fo, none⟩)) :=
  ⟨fun _ => by simp, fun w => by
    subst hfo
    simp [execOp, hx, Instr.fieldAt, run_underlying ht, hf, Instr.sureAddr, fieldPlace, run_sizeOf hz, Addr.add_lit]⟩

theorem run_asIntOf (k : IntKind) (n : Int) (w : World) : (asIntOf (.int k n)).run P w = .ok (k, n) w := rfl

/-- An element's address: of a slice. -/
theorem DP.ias {x y : Operand} {b o len cap i n : Nat} {t e : TypeId} {k : IntKind} (hx : E.eval x = .slice (some ⟨b, o, none⟩) len cap) (hy : E.eval y = .int k i) (ht : P.underlying t = some (.slice e)) (hz : P.cellsOf e = n + 1) (hi : i < len) :
    DP P E ⟨d, .indexAddr t x y, ty, pos, af, g⟩ (.pointer (some ⟨b, o + i * (n + 1), none⟩)) :=
  ⟨fun _ => by simp, fun w => by
    have h1 : (0 : Int) ≤ (i : Int) ∧ (i : Int) < (len : Int) := by omega
    simp [execOp, hx, hy, Instr.indexAt, run_asIntOf, run_underlying ht, run_sizeOf hz, Addr.add_lit, hi]⟩
/-- .. of an array behind a pointer. -/
theorem DP.iaa {x y : Operand} {b o len i n : Nat} {t e : TypeId} {k : IntKind} (hx : E.eval x = .pointer (some ⟨b, o, none⟩)) (hy : E.eval y = .int k i) (ht : P.underlying t = some (.array len e)) (hz : P.cellsOf e = n + 1) (hi : i < len) :
    DP P E ⟨d, .indexAddr t x y, ty, pos, af, g⟩ (.pointer (some ⟨b, o + i * (n + 1), none⟩)) :=
  ⟨fun _ => by simp, fun w => by
    simp [execOp, hx, hy, Instr.indexAt, run_asIntOf, run_underlying ht, run_sizeOf hz, Addr.add_lit, hi, Instr.sureAddr]⟩

/-- An element of an array that is a value. -/
theorem DP.ixa1 {x y : Operand} {cs : Array Value} {len i : Nat} {t e : TypeId} {k : IntKind} {v : Value} (hx : E.eval x = .agg cs) (hy : E.eval y = .int k i) (ht : P.underlying t = some (.array len e)) (hp : plainT P e = true) (hz : P.cellsOf e = 1) (hi : i < len) (hv : cs[i]? = some v) :
    DP P E ⟨d, .index t x y, ty, pos, af, g⟩ v :=
  ⟨fun _ => by simp, fun w => by
    simp [execOp, hx, hy, Instr.index, run_asIntOf, run_underlying ht, run_sizeOf (n := 0) hz, hi, part, run_isAgg_plain hp, hv]⟩
theorem DP.ixaA {x y : Operand} {cs : Array Value} {len i n : Nat} {t e : TypeId} {k : IntKind} (hx : E.eval x = .agg cs) (hy : E.eval y = .int k i) (ht : P.underlying t = some (.array len e)) (hp : aggT P e = true) (hz : P.cellsOf e = n + 1) (hi : i < len) :
    DP P E ⟨d, .index t x y, ty, pos, af, g⟩ (.agg (cs.extract (i * (n + 1)) (i * (n + 1) + (n + 1)))) :=
  ⟨fun _ => by simp, fun w => by
    simp [execOp, hx, hy, Instr.index, run_asIntOf, run_underlying ht, run_sizeOf hz, hi, part, run_isAgg_agg hp]⟩
/-- A field of a struct that is a value. -/
theorem DP.fd1 (fo : Nat) {x : Operand} {cs : Array Value} {t : TypeId} {k : Nat} {fs : Array Field} {f : Field} {v : Value} (hx : E.eval x = .agg cs) (ht : P.underlying t = some (.struct fs)) (hf : fs[k]? = some f) (hfo : f.offset = fo) (hp : plainT P f.type = true) (hv : cs[fo]? = some v) :
    DP P E ⟨d, .field t x k, ty, pos, af, g⟩ v :=
  ⟨fun _ => by simp, fun w => by
    subst hfo
    simp [execOp, hx, Instr.field, run_underlying ht, hf, asAgg, part, run_isAgg_plain hp, hv]⟩
theorem DP.fdA (fo : Nat) {x : Operand} {cs : Array Value} {t : TypeId} {k n : Nat} {fs : Array Field} {f : Field} (hx : E.eval x = .agg cs) (ht : P.underlying t = some (.struct fs)) (hf : fs[k]? = some f) (hfo : f.offset = fo) (hp : aggT P f.type = true) (hz : P.cellsOf f.type = n + 1) :
    DP P E ⟨d, .field t x k, ty, pos, af, g⟩ (.agg (cs.extract fo (fo + (n + 1)))) :=
  ⟨fun _ => by simp, fun w => by
    subst hfo
    simp [execOp, hx, Instr.field, run_underlying ht, hf, asAgg, part, run_isAgg_agg hp, run_sizeOf hz]⟩

/-! ### Lengths -/
theorem DP.lenS {x : Operand} {a : Option Addr} {n cap : Nat} {t e : TypeId} (hx : E.eval x = .slice a n cap) (ht : P.underlying t = some (.slice e)) : DP P E ⟨d, .call ⟨.builtin .len, #[x], #[t]⟩, ty, pos, af, g⟩ (.int .i64 (n : Int)) :=
  ⟨fun _ => by simp, fun w => by
    simp [execOp, resolve, invoke, builtin, hx, Builtin.len_, run_underlying ht, goInt]⟩
theorem DP.capS {x : Operand} {a : Option Addr} {n cap : Nat} {t e : TypeId} (hx : E.eval x = .slice a n cap) (ht : P.underlying t = some (.slice e)) : DP P E ⟨d, .call ⟨.builtin .cap, #[x], #[t]⟩, ty, pos, af, g⟩ (.int .i64 (cap : Int)) :=
  ⟨fun _ => by simp, fun w => by
    simp [execOp, resolve, invoke, builtin, hx, Builtin.cap_, run_underlying ht, goInt]⟩
theorem DP.minN {x y : Operand} {k : IntKind} {a b : Nat} {ts : Array TypeId} (hx : E.eval x = .int k a) (hy : E.eval y = .int k b) : DP P E ⟨d, .call ⟨.builtin .min, #[x, y], ts⟩, ty, pos, af, g⟩ (.int k ((min a b : Nat) : Int)) :=
  ⟨fun _ => by simp, fun w => by
    have e : (if (b : Int) < (a : Int) then (b : Int) else (a : Int)) = ((min a b : Nat) : Int) := by split <;> omega
    simp [execOp, resolve, invoke, builtin, hx, hy, Builtin.min_, Builtin.min2]
    omega⟩
theorem DP.maxN {x y : Operand} {k : IntKind} {a b : Nat} {ts : Array TypeId} (hx : E.eval x = .int k a) (hy : E.eval y = .int k b) : DP P E ⟨d, .call ⟨.builtin .max, #[x, y], ts⟩, ty, pos, af, g⟩ (.int k ((max a b : Nat) : Int)) :=
  ⟨fun _ => by simp, fun w => by
    simp [execOp, resolve, invoke, builtin, hx, hy, Builtin.max_, Builtin.max2]
    omega⟩
end
end Pw
namespace Pw
open Go

/-! ## Texts and slices -/
abbrev byteV (b : UInt8) : Value := .int .u8 ((b.toNat : Nat) : Int)
abbrev str (l : List UInt8) : Value := .string ⟨l.toArray⟩
theorem str_of (s : ByteArray) : Value.string s = str s.data.toList := rfl

section
variable {P : Program} {r : Rd} {c : Ctx} {L : List Assn} {E : Env} {d : Option Tmp} {ty : TypeId} {pos : String} {af : Array Edge} {g : Option (Nat × Bool)}

theorem size_mkL (l : List UInt8) : (ByteArray.mk l.toArray).size = l.length := by simp [ByteArray.size]
theorem DP.lenT {x : Operand} {l : List UInt8} {t : TypeId} (hx : E.eval x = str l) (ht : P.underlying t = some .string) : DP P E ⟨d, .call ⟨.builtin .len, #[x], #[t]⟩, ty, pos, af, g⟩ (.int .i64 ((l.length : Nat) : Int)) :=
  ⟨fun _ => by simp, fun w => by
    simp [execOp, resolve, invoke, builtin, hx, str, Builtin.len_, run_underlying ht, goInt, size_mkL]⟩
theorem DP.ixT {x y : Operand} {l : List UInt8} {i : Nat} {b : UInt8} {t : TypeId} {k : IntKind} (hx : E.eval x = str l) (hy : E.eval y = .int k i) (ht : P.underlying t = some .string) (hb : l[i]? = some b) :
    DP P E ⟨d, .index t x y, ty, pos, af, g⟩ (byteV b) :=
  ⟨fun _ => by simp, fun w => by
    have h1 : (ByteArray.mk l.toArray)[i]? = some b := by
      have hlt : i < l.length := (List.getElem?_eq_some_iff.1 hb).1
      rw [ByteArray.getElem?_lt' _ _ (by rw [size_mkL]; exact hlt)]
      have := (List.getElem?_eq_some_iff.1 hb).2
      show some ((l.toArray)[i]) = some b
      simp [this]
    simp [execOp, hx, hy, str, Instr.index, run_asIntOf, run_underlying ht, h1, byteV]⟩
theorem extract_mkL (l : List UInt8) (a b : Nat) : (ByteArray.mk l.toArray).extract a b = ⟨((l.take b).drop a).toArray⟩ := by
  rw [ByteArray.extract_mk]
  congr 2
  rw [List.drop_take]
theorem run_bound (k : IntKind) (i y : Nat) (code : BoundsCode) (h : i ≤ y) (w : World) : (Instr.sliceBound (.int k (i : Int)) y code).run P w = .ok i w := by
  have h1 : (0 : Int) ≤ (i : Int) ∧ (i : Int) ≤ (y : Int) := by omega
  simp [Instr.sliceBound, run_asIntOf, h1]
end
end Pw
namespace Pw
open Go
section
variable {P : Program} {r : Rd} {c : Ctx} {L : List Assn} {E : Env} {d : Option Tmp} {ty : TypeId} {pos : String} {af : Array Edge} {g : Option (Nat × Bool)}
theorem run_slice3 (isS : Bool) (len cap i j : Nat) (k k' : IntKind) (h1 : i ≤ j) (h2 : j ≤ cap) (w : World) : (Instr.sliceBounds isS len cap (some (.int k i)) (some (.int k' j)) none).run P w = .ok (i, j, cap) w := by
  simp [Instr.sliceBounds, run_bound k i j _ h1, run_bound k' j cap _ h2]
theorem run_slice3l (isS : Bool) (len cap i : Nat) (k : IntKind) (h1 : i ≤ len) (w : World) : (Instr.sliceBounds isS len cap (some (.int k i)) none none).run P w = .ok (i, len, cap) w := by
  simp [Instr.sliceBounds, run_bound k i len _ h1]
theorem run_slice3h (isS : Bool) (len cap j : Nat) (k' : IntKind) (h2 : j ≤ cap) (w : World) : (Instr.sliceBounds isS len cap none (some (.int k' j)) none).run P w = .ok (0, j, cap) w := by
  simp [Instr.sliceBounds, run_bound k' j cap _ h2]
theorem run_slice3a (isS : Bool) (len cap : Nat) (w : World) : (Instr.sliceBounds isS len cap none none none).run P w = .ok (0, len, cap) w := by
  simp [Instr.sliceBounds]
theorem run_slice3m (isS : Bool) (len cap i j m : Nat) (k k' k'' : IntKind) (h1 : i ≤ j) (h2 : j ≤ m) (h3 : m ≤ cap) (w : World) : (Instr.sliceBounds isS len cap (some (.int k i)) (some (.int k' j)) (some (.int k'' m))).run P w = .ok (i, j, m) w := by
  simp [Instr.sliceBounds, run_bound k i j _ h1, run_bound k' j m _ h2, run_bound k'' m cap _ h3]

/-- s[i:j] of a text. -/
theorem DP.slT {x y z : Operand} {l : List UInt8} {i j : Nat} {t : TypeId} {k k' : IntKind} (hx : E.eval x = str l) (hy : E.eval y = .int k i) (hz : E.eval z = .int k' j) (ht : P.underlying t = some .string) (h1 : i ≤ j) (h2 : j ≤ l.length) :
    DP P E ⟨d, .slice t x (some y) (some z) none, ty, pos, af, g⟩ (str ((l.take j).drop i)) :=
  ⟨fun _ => by simp, fun w => by
    have h2' : j ≤ (ByteArray.mk l.toArray).size := by rw [size_mkL]; exact h2
    simp [execOp, hx, hy, hz, str, Instr.sliceAt, Instr.slice, run_underlying ht, run_slice3 _ _ _ i j _ _ h1 h2', extract_mkL]⟩
theorem DP.slTl {x y : Operand} {l : List UInt8} {i : Nat} {t : TypeId} {k : IntKind} (hx : E.eval x = str l) (hy : E.eval y = .int k i) (ht : P.underlying t = some .string) (h1 : i ≤ l.length) :
    DP P E ⟨d, .slice t x (some y) none none, ty, pos, af, g⟩ (str (l.drop i)) :=
  ⟨fun _ => by simp, fun w => by
    simp [execOp, hx, hy, str, Instr.sliceAt, Instr.slice, run_underlying ht, run_slice3l _ _ _ i _ h1, extract_mkL, size_mkL]⟩
theorem DP.slTh {x z : Operand} {l : List UInt8} {j : Nat} {t : TypeId} {k' : IntKind} (hx : E.eval x = str l) (hz : E.eval z = .int k' j) (ht : P.underlying t = some .string) (h2 : j ≤ l.length) :
    DP P E ⟨d, .slice t x none (some z) none, ty, pos, af, g⟩ (str (l.take j)) :=
  ⟨fun _ => by simp, fun w => by
    have h2' : j ≤ (ByteArray.mk l.toArray).size := by rw [size_mkL]; exact h2
    simp [execOp, hx, hz, str, Instr.sliceAt, Instr.slice, run_underlying ht, run_slice3h _ _ _ j _ h2', extract_mkL]⟩

theorem DP.cat {x y : Operand} {l m : List UInt8} {t t' : TypeId} (hx : E.eval x = str l) (hy : E.eval y = str m) (h : l.length + m.length ≤ 9223372036854775807) : DP P E ⟨d, .binOp .add t x y t', ty, pos, af, g⟩ (str (l ++ m)) :=
  ⟨fun _ => by simp, fun w => by
    have h2 : (Op.stringOp .add ⟨l.toArray⟩ ⟨m.toArray⟩).run P w = .ok (.string (⟨l.toArray⟩ ++ ⟨m.toArray⟩)) w := run_string_add_sum _ _ _ (by rw [size_mkL, size_mkL]; exact h)
    simp only [execOp, hx, hy, str, eqGuard_add, binOp_string_add]
    simp only [Sem.run_bind, Sem.run_pure, Result.andThen_ok, h2, ByteArray.mk_append_mk]⟩
theorem beq_dec (l m : List UInt8) : (l == m) = decide (l = m) := by by_cases h : l = m <;> simp [h]
theorem DP.teql {x y : Operand} {l m : List UInt8} {t t' : TypeId} (hx : E.eval x = str l) (hy : E.eval y = str m) : DP P E ⟨d, .binOp .eql t x y t', ty, pos, af, g⟩ (.bool (decide (l = m))) :=
  ⟨fun _ => by simp, fun w => by simp only [execOp, hx, hy, str, eqGuard_at_string, binOp_string_eql, ByteArray.toList_mk, beq_dec]; simp⟩
theorem DP.tneq {x y : Operand} {l m : List UInt8} {t t' : TypeId} (hx : E.eval x = str l) (hy : E.eval y = str m) : DP P E ⟨d, .binOp .neq t x y t', ty, pos, af, g⟩ (.bool (decide (l ≠ m))) :=
  ⟨fun _ => by simp, fun w => by simp only [execOp, hx, hy, str, eqGuard_at_string, binOp_string_neq, ByteArray.toList_mk, beq_dec]; simp⟩

/-! ### s[i:j] of slices -/
theorem DP.slS {x y z : Operand} {b o len cap i j n : Nat} {t e : TypeId} {k k' : IntKind} (hx : E.eval x = .slice (some ⟨b, o, none⟩) len cap) (hy : E.eval y = .int k i) (hz : E.eval z = .int k' j) (ht : P.underlying t = some (.slice e)) (hs : P.cellsOf e = n + 1) (h1 : i ≤ j) (h2 : j ≤ cap) :
    DP P E ⟨d, .slice t x (some y) (some z) none, ty, pos, af, g⟩ (.slice (some ⟨b, if cap = i then o else o + i * (n + 1), none⟩) (j - i) (cap - i)) :=
  ⟨fun _ => by simp, fun w => by
    simp [execOp, hx, hy, hz, Instr.sliceAt, Instr.slice, run_underlying ht, run_slice3 _ _ _ i j _ _ h1 h2, run_sizeOf hs]
    split <;> simp [Addr.add_lit]⟩
theorem DP.slSl {x y : Operand} {b o len cap i n : Nat} {t e : TypeId} {k : IntKind} (hx : E.eval x = .slice (some ⟨b, o, none⟩) len cap) (hy : E.eval y = .int k i) (ht : P.underlying t = some (.slice e)) (hs : P.cellsOf e = n + 1) (h1 : i ≤ len) :
    DP P E ⟨d, .slice t x (some y) none none, ty, pos, af, g⟩ (.slice (some ⟨b, if cap = i then o else o + i * (n + 1), none⟩) (len - i) (cap - i)) :=
  ⟨fun _ => by simp, fun w => by
    simp [execOp, hx, hy, Instr.sliceAt, Instr.slice, run_underlying ht, run_slice3l _ _ _ i _ h1, run_sizeOf hs]
    split <;> simp [Addr.add_lit]⟩
theorem DP.slSh {x z : Operand} {b o len cap j n : Nat} {t e : TypeId} {k' : IntKind} (hx : E.eval x = .slice (some ⟨b, o, none⟩) len cap) (hz : E.eval z = .int k' j) (ht : P.underlying t = some (.slice e)) (hs : P.cellsOf e = n + 1) (h2 : j ≤ cap) :
    DP P E ⟨d, .slice t x none (some z) none, ty, pos, af, g⟩ (.slice (some ⟨b, o, none⟩) j cap) :=
  ⟨fun _ => by simp, fun w => by
    simp [execOp, hx, hz, Instr.sliceAt, Instr.slice, run_underlying ht, run_slice3h _ _ _ j _ h2, run_sizeOf hs]
    intro _; rfl⟩
theorem DP.slSm {x y z u : Operand} {b o len cap i j m n : Nat} {t e : TypeId} {k k' k'' : IntKind} (hx : E.eval x = .slice (some ⟨b, o, none⟩) len cap) (hy : E.eval y = .int k i) (hz : E.eval z = .int k' j) (hu : E.eval u = .int k'' m) (ht : P.underlying t = some (.slice e)) (hs : P.cellsOf e = n + 1) (h1 : i ≤ j) (h2 : j ≤ m) (h3 : m ≤ cap) :
    DP P E ⟨d, .slice t x (some y) (some z) (some u), ty, pos, af, g⟩ (.slice (some ⟨b, if m = i then o else o + i * (n + 1), none⟩) (j - i) (m - i)) :=
  ⟨fun _ => by simp, fun w => by
    simp [execOp, hx, hy, hz, hu, Instr.sliceAt, Instr.slice, run_underlying ht, run_slice3m _ _ _ i j m _ _ _ h1 h2 h3, run_sizeOf hs]
    split <;> simp [Addr.add_lit]⟩
/-- of an array behind a pointer -/
theorem DP.slAl {x y : Operand} {b o len i n : Nat} {t e : TypeId} {k : IntKind} (hx : E.eval x = .pointer (some ⟨b, o, none⟩)) (hy : E.eval y = .int k i) (ht : P.underlying t = some (.array len e)) (hs : P.cellsOf e = n + 1) (h1 : i ≤ len) :
    DP P E ⟨d, .slice t x (some y) none none, ty, pos, af, g⟩ (.slice (some ⟨b, if len = i then o else o + i * (n + 1), none⟩) (len - i) (len - i)) :=
  ⟨fun _ => by simp, fun w => by
    simp [execOp, hx, hy, Instr.sliceAt, Instr.sureAddr, run_underlying ht, run_slice3l _ _ _ i _ h1, run_sizeOf hs]
    split <;> simp [Addr.add_lit]⟩
theorem DP.slAh {x z : Operand} {b o len j n : Nat} {t e : TypeId} {k' : IntKind} (hx : E.eval x = .pointer (some ⟨b, o, none⟩)) (hz : E.eval z = .int k' j) (ht : P.underlying t = some (.array len e)) (hs : P.cellsOf e = n + 1) (h2 : j ≤ len) :
    DP P E ⟨d, .slice t x none (some z) none, ty, pos, af, g⟩ (.slice (some ⟨b, o, none⟩) j len) :=
  ⟨fun _ => by simp, fun w => by
    simp [execOp, hx, hz, Instr.sliceAt, Instr.sureAddr, run_underlying ht, run_slice3h _ _ _ j _ h2, run_sizeOf hs]
    intro _; rfl⟩
theorem DP.slAa {x : Operand} {b o len n : Nat} {t e : TypeId} (hx : E.eval x = .pointer (some ⟨b, o, none⟩)) (ht : P.underlying t = some (.array len e)) (hs : P.cellsOf e = n + 1) :
    DP P E ⟨d, .slice t x none none none, ty, pos, af, g⟩ (.slice (some ⟨b, o, none⟩) len len) :=
  ⟨fun _ => by simp, fun w => by
    simp [execOp, hx, Instr.sliceAt, Instr.sureAddr, run_underlying ht, run_slice3a, run_sizeOf hs]
    intro _; rfl⟩
theorem DP.slAlh {x y z : Operand} {b o len i j n : Nat} {t e : TypeId} {k k' : IntKind} (hx : E.eval x = .pointer (some ⟨b, o, none⟩)) (hy : E.eval y = .int k i) (hz : E.eval z = .int k' j) (ht : P.underlying t = some (.array len e)) (hs : P.cellsOf e = n + 1) (h1 : i ≤ j) (h2 : j ≤ len) :
    DP P E ⟨d, .slice t x (some y) (some z) none, ty, pos, af, g⟩ (.slice (some ⟨b, if len = i then o else o + i * (n + 1), none⟩) (j - i) (len - i)) :=
  ⟨fun _ => by simp, fun w => by
    simp [execOp, hx, hy, hz, Instr.sliceAt, Instr.sureAddr, run_underlying ht, run_slice3 _ _ _ i j _ _ h1 h2, run_sizeOf hs]
    split <;> simp [Addr.add_lit]⟩

/-! ### Bytes and texts -/
theorem foldl_push (l : List UInt8) : ∀ (acc : List UInt8), (l.map fun b => ((b.toNat : Nat) : Int)).foldl (fun (r : ByteArray) n => r.push (UInt8.ofNat n.toNat)) ⟨acc.toArray⟩ = ⟨(acc ++ l).toArray⟩ := by
  induction l with
  | nil => intro acc; simp
  | cons b l ih =>
    intro acc
    have e : (ByteArray.mk acc.toArray).push b = ⟨(acc ++ [b]).toArray⟩ := by simp [ByteArray.push]
    simp only [List.map_cons, List.foldl_cons, Int.toNat_natCast, UInt8.ofNat_toNat, e]
    rw [ih]
    simp
/-- string(b): off memory. -/
theorem D.cbs {x : Operand} {b o len cap : Nat} {l : List UInt8} {t t' e : TypeId} {A : Assn} (hx : E.eval x = .slice (some ⟨b, o, none⟩) len cap) (ht : P.underlying t = some (.slice e)) (ht' : P.underlying t' = some .string) (he : P.underlying e = some (.int .u8)) 
    (hl : l.length = len) (hm : LMem A L) (hr : ReadsN A b o (l.map byteV)) : D P c L E ⟨d, .convert t t' x, ty, pos, af, g⟩ (str l) :=
  ⟨fun _ => by simp, fun w hw => by
    have hc := run_loadCells' (P := P) (w := w) (b := b) (o := o) (vs := l.map byteV) (fun i v hv => hw.reads hm (hr i v hv))
    rw [List.length_map, hl] at hc
    have h2 := run_bytesToString (P := P) w ⟨b, o, none⟩ len cap (l.map fun b => ((b.toNat : Nat) : Int)) (by rw [hc]; congr 1; simp [byteV, Function.comp_def])
    have h3 := foldl_push l []
    simp only [List.nil_append] at h3
    rw [show (ByteArray.empty : ByteArray) = ⟨([] : List UInt8).toArray⟩ from rfl, h3] at h2
    simp [execOp, hx, convert, run_underlying ht, run_underlying ht', run_underlying he, h2, str]⟩
theorem DP.cbs0 {x : Operand} {n m : Nat} {t t' e : TypeId} (hx : E.eval x = .slice none n m) (ht : P.underlying t = some (.slice e)) (ht' : P.underlying t' = some .string) (he : P.underlying e = some (.int .u8)) : DP P E ⟨d, .convert t t' x, ty, pos, af, g⟩ (str []) :=
  ⟨fun _ => by simp, fun w => by
    simp [execOp, hx, convert, run_underlying ht, run_underlying ht', run_underlying he, Conv.bytesToString, str, ByteArray.empty, ByteArray.emptyWithCapacity]
    rfl⟩

/-- A slice that owns its array from the head on: xs (n elements) and room behind them. -/
def sl (e : TypeId) (sz : Nat) (v : Value) (n : Nat) (xs : List Value) : Assn := fun f =>
  (v = .slice none 0 0 ∧ n = 0 ∧ xs = []) ∨ ∃ b k rest, v = .slice (some ⟨b, 0, none⟩) n (n + k) ∧ xs.length = n * sz ∧ rest.length = k * sz ∧ row e b (xs ++ rest) f

theorem heap_freeze_same {w : World} {b o : Nat} {t : TypeId} {cs : Array Value} (h : w.heap[b]? = some (.cells cs t (0, 0))) : (w.freeze ⟨b, o, none⟩ 1).heap[b]? = some (.cells cs t (o, o + 1)) := by
  simp [World.freeze, Array.getElem?_modify, h]
theorem heap_freeze_ne {w : World} {b o k : Nat} (h : k ≠ b) : (w.freeze ⟨b, o, none⟩ 1).heap[k]? = w.heap[k]? := by
  have hk' : ¬ b = k := fun e => h e.symm
  simp [World.freeze, Array.getElem?_modify, hk']
/-- []byte(s) -/
theorem N.csb {x : Operand} {l : List UInt8} {t t' e : TypeId} (hx : E.eval x = str l) (ht : P.underlying t = some .string) (ht' : P.underlying t' = some (.slice e)) (he : P.underlying e = some (.int .u8)) :
    N P r c L E ⟨d, .convert t t' x, ty, pos, af, g⟩ (fun v L' => ∃ b rest, v = .slice (some ⟨b, 0, none⟩) l.length (l.length + rest.length) ∧ L' = row e b (l.map byteV ++ rest) :: L) := by
  refine N.value (fun _ => by simp) fun w hw => ?_
  obtain ⟨cap, hcap⟩ : ∃ cap, (Question.appendCap l.length 0 e).cut (w.tape w.drawn (.appendCap l.length 0 e)) = cap := ⟨_, rfl⟩
  have hge : l.length ≤ cap := by rw [← hcap]; simp [Question.cut]
  have hrow : (l.toArray.map fun b : UInt8 => Value.int .u8 ((b.toNat : Nat) : Int)) ++ Array.replicate (cap - l.length) (Value.int .u8 0) = (l.map byteV ++ List.replicate (cap - l.length) (Value.int .u8 0)).toArray := by
    simp [byteV]
  refine ⟨.slice (some ⟨w.heap.size, 0, none⟩) l.length cap, _, (({ w with drawn := w.drawn + 1 } : World).alloc (.cells (l.map byteV ++ List.replicate (cap - l.length) (Value.int .u8 0)).toArray e (0, 0))).freeze ⟨w.heap.size, cap, none⟩ 1, ?_, ⟨w.heap.size, List.replicate (cap - l.length) (Value.int .u8 0), ?_, rfl⟩, ?_⟩
  · simp only [execOp, hx, str, convert]
    simp only [Sem.run_bind, Sem.run_pure, Result.andThen_ok, run_underlying ht, run_underlying ht', run_underlying he, Conv.stringToBytes]
    simp only [run_choose, size_mkL, Question.forced, Bool.false_eq_true, if_false, Result.andThen_ok, hcap]
    simp only [newRow, Sem.run_bind, run_newObj, Result.andThen_ok, Sem.run_pure, markStringish, run_shape]
    simp only [World.shape?]
    rw [hrow]
    simp [World.alloc, hge]
  · simp; omega
  · have h1 := (hw.drew).alloc (.cells (l.map byteV ++ List.replicate (cap - l.length) (Value.int .u8 0)).toArray e (0, 0))
    have h2 := h1.setObj (w' := ((({ w with drawn := w.drawn + 1 } : World).alloc (.cells (l.map byteV ++ List.replicate (cap - l.length) (Value.int .u8 0)).toArray e (0, 0))).freeze ⟨w.heap.size, cap, none⟩ 1)) (o' := .cells (l.map byteV ++ List.replicate (cap - l.length) (Value.int .u8 0)).toArray e (cap, cap + 1))
      rfl rfl rfl (heap_freeze_same (h1.heap (.head _ _))) (fun k hk => heap_freeze_ne hk)
    refine SL.toRow (fun o ho => notIn.below ?_) h2
    simp at ho; omega
/-- Bytes to bytes of the same type: the row is marked. -/
theorem N.cvb {x : Operand} {b o n cap : Nat} {t e e' : TypeId} {cs : List Value} {R : List Assn} (hx : E.eval x = .slice (some ⟨b, o, none⟩) n cap) (ht : P.underlying t = some (.slice e)) (he : P.underlying e = some (.int .u8)) (hd : Del (row e' b cs) L R) :
    N P r c L E ⟨d, .convert t t x, ty, pos, af, g⟩ (fun v L' => v = .slice (some ⟨b, o, none⟩) n cap ∧ L' = row e' b cs :: R) := by
  refine N.value (fun _ => by simp) fun w hw => ?_
  obtain ⟨fr, hfr, h1⟩ := (hw.perm hd.perm).row
  have hb := h1.heap (.head _ _)
  obtain ⟨lo, hi⟩ := fr
  refine ⟨_, _, w.freeze ⟨b, cs.length, none⟩ 1, ?_, ⟨rfl, rfl⟩, SL.toRow (fr := if lo == hi then (cs.length, cs.length + 1) else (min lo cs.length, max hi (cs.length + 1))) ?_ (h1.setObj rfl rfl rfl ?_ ?_)⟩
  · have hs : w.shape? b = some (e', cs.length) := by unfold World.shape?; rw [hb]; simp
    simp only [execOp, hx, convert]
    simp only [Sem.run_bind, Sem.run_pure, Result.andThen_ok, run_underlying ht, run_underlying he, beq_self_eq_true, markStringish, run_shape, hs]
    simp
  · intro q hq
    have := hfr q hq
    simp only [notIn] at this ⊢
    by_cases h : lo = hi
    · simp [h]; omega
    · simp [h]; omega
  · simp [World.freeze, Array.getElem?_modify, hb]
  · intro k hk
    exact heap_freeze_ne hk
end
end Pw
namespace Pw
open Go
section
variable {P : Program} {r : Rd} {c : Ctx} {L : List Assn} {E : Env} {d : Option Tmp} {ty : TypeId} {pos : String} {af : Array Edge} {g : Option (Nat × Bool)}

/-! ### What is appended, copied -/
structure Src (P : Program) (c : Ctx) (L : List Assn) (sz : Nat) (xt : TypeId) (xv : Value) (m : Nat) (news : List Value) : Prop where
  ty : ∃ ds, P.underlying xt = some ds ∧ ∀ k, ds ≠ .int k
  len : ∀ w, (Builtin.lenOf xv).run P w = .ok m w
  first : ∀ w, SL c L w → ∀ k, k ≤ m → (Builtin.firstCells sz k xv).run P w = .ok (news.take (k * sz)).toArray w
  size : news.length = m * sz
theorem Src.str {sz : Nat} {xt : TypeId} {l : List UInt8} (ht : P.underlying xt = some .string) (hs : sz = 1) : Src P c L sz xt (str l) l.length (l.map byteV) :=
  ⟨⟨_, ht, by simp⟩, fun w => by simp [Builtin.lenOf, Pw.str, size_mkL], fun w _ k hk => by
    simp [Builtin.firstCells, Pw.str, extract_mkL, hs, List.map_take]; (try rfl), by simp [hs]⟩
theorem Src.sl {sz : Nat} {xt e : TypeId} {b o m cap : Nat} {news : List Value} {A : Assn} (ht : P.underlying xt = some (.slice e)) (hl : news.length = m * sz) (hm : LMem A L) (hr : ReadsN A b o news) : Src P c L sz xt (.slice (some ⟨b, o, none⟩) m cap) m news :=
  ⟨⟨_, ht, by simp⟩, fun w => by simp [Builtin.lenOf], fun w hw k hk => by
    have h1 : (news.take (k * sz)).length = k * sz := by rw [List.length_take, hl]; exact Nat.min_eq_left (Nat.mul_le_mul_right _ hk)
    have := run_loadCells' (P := P) (w := w) (b := b) (o := o) (vs := news.take (k * sz)) (fun i v hv => hw.reads hm (hr i v (by
      rw [List.getElem?_take] at hv
      split at hv
      · exact hv
      · cases hv)))
    rw [h1] at this
    simp [Builtin.firstCells, this], hl⟩
theorem Src.nil {sz : Nat} {xt e : TypeId} {m : Nat} (ht : P.underlying xt = some (.slice e)) : Src P c L sz xt (.slice none 0 m) 0 [] :=
  ⟨⟨_, ht, by simp⟩, fun w => by simp [Builtin.lenOf], fun w _ k hk => by simp [Builtin.firstCells], by simp⟩

theorem zeroCells_list (z : Array Value) (n : Nat) : ∃ l : List Value, Builtin.zeroCells z n = l.toArray ∧ l.length = n * z.size := ⟨(Builtin.zeroCells z n).toList, by simp, by simp [Builtin.zeroCells]⟩

/-- append, onto a slice of the call's own. -/
theorem N.app {x y : Operand} {v xv z : Value} {n m sz : Nat} {t xt e : TypeId} {xs news zs : List Value} {R : List Assn} {by_ : Nat}
    (hx : E.eval x = v) (hy : E.eval y = xv) (ht : P.underlying t = some (.slice e)) (hsz : P.cellsOf e = sz + 1) (hb : P.bytesOf e = by_) (hz : P.zeroOf e = some z) (hzc : z.cells = zs.toArray) (hzl : zs.length = sz + 1)
    (hd : Del (sl e (sz + 1) v n xs) L R) (hs : Src P c L (sz + 1) xt xv m news) (h1 : ∀ u ∈ news, u.oneCell' = true) (hlim : (n + m) * (by_ + 1) ≤ 140737488355328) :
    N P r c L E ⟨d, .call ⟨.builtin .append, #[x, y], #[t, xt]⟩, ty, pos, af, g⟩ (fun v' L' => L' = sl e (sz + 1) v' (n + m) (xs ++ news) :: R) := by
  refine N.value (fun _ => by simp) fun w hw => ?_
  have hrun : (execOp E.eval ⟨d, .call ⟨.builtin .append, #[x, y], #[t, xt]⟩, ty, pos, af, g⟩).run P w = ((Builtin.append_ #[t, xt] ty #[v, xv]).run P w).andThen (fun a w' => Result.ok (Next.value a) w') := by
    simp [execOp, resolve, invoke, builtin, hx, hy]
  rw [hrun]
  obtain ⟨ds, hds, hnk⟩ := hs.ty
  have hzeros : (ds matches .int _) = false := by cases ds <;> first | rfl | exact absurd rfl (hnk _)
  have hnm : n + m ≤ 140737488355328 := Nat.le_trans (Nat.le_mul_of_pos_right _ (by omega)) hlim
  have hbm : (n + m) * by_ ≤ 140737488355328 := Nat.le_trans (Nat.mul_le_mul_left _ (by omega)) hlim
  obtain ⟨i, hi, hie⟩ : ∃ i, P.info? e = some i ∧ i.bytes = by_ := by
    unfold Program.cellsOf at hsz
    cases hi : P.info? e with
    | none => simp [hi] at hsz
    | some i => exact ⟨i, rfl, by unfold Program.bytesOf at hb; simpa [hi] using hb⟩
  have hti : ∀ w, (typeInfo e).run P w = .ok i w := fun w => by simp [typeInfo, hi]
  have hpm := hd.perm
  have hw1 := hw.perm hpm
  have hnl : news.take (m * (sz + 1)) = news := List.take_of_length_le (by rw [hs.size]; exact Nat.le_refl _)
  have hfirst : ∀ w, SL c L w → (Builtin.firstCells (sz + 1) m xv).run P w = .ok news.toArray w := fun w hw => by rw [hs.first w hw m (Nat.le_refl _), hnl]
  obtain ⟨e1, e2, e3, f1, f2, hdj, hf1, hf2, hsl, hl⟩ := hw1
  -- a new array
  have fresh : ∀ (base : Option Addr) (old : Nat) (oldc : List Value), oldc.length = n * (sz + 1) → xs = oldc → v = .slice base n old → old < n + m →
      (∀ w', SL c L w' → (Builtin.firstCells (sz + 1) n v).run P w' = .ok oldc.toArray w') →
      ∃ v' L' w', ((Builtin.append_ #[t, xt] ty #[v, xv]).run P w).andThen (fun a w' => Result.ok (Next.value a) w') = .ok (.value v') w' ∧ L' = sl e (sz + 1) v' (n + m) (xs ++ news) :: R ∧ SL c L' w' := by
    intro base old oldc hol hxo hv hlt hfo
    subst hxo
    obtain ⟨cap, hcap⟩ : ∃ cap, (Question.appendCap (n + m) old e).cut (w.tape w.drawn (.appendCap (n + m) old e)) = cap := ⟨_, rfl⟩
    have hge : n + m ≤ cap := by rw [← hcap]; simp [Question.cut]
    obtain ⟨zl, hzl1, hzl2⟩ := zeroCells_list zs.toArray (cap - (n + m))
    have hk48 : ¬ (Builtin.nextslicecap (n + m) old * i.bytes > 2 ^ 48) := by
      have := growslice_fits (need := n + m) (old := old) (bytes := i.bytes) hlt (by rw [hie]; exact hbm)
      omega
    have hfr := SL.toRow (e := e) (fun o _ => notIn.zero o) ((hw.drew).alloc (.cells (xs ++ news ++ zl).toArray e (0, 0)))
    refine ⟨.slice (some ⟨w.heap.size, 0, none⟩) (n + m) cap, _, ({ w with drawn := w.drawn + 1 } : World).alloc (.cells (xs ++ news ++ zl).toArray e (0, 0)), ?_, rfl, ?_⟩
    · have hn1 : ¬ (n + m ≤ old) := by omega
      subst hv
      simp only [Builtin.append_, List.getElem?_toArray, List.getElem?_cons_zero, List.getElem?_cons_succ]
      simp only [Sem.run_bind, Sem.run_pure, Result.andThen_ok, run_underlying ht, run_underlying hds, run_sizeOf hsz, Bool.false_eq_true, if_false, hs.len, hn1, Sem.run_ite, hti, false_or]
      have hz1 : ¬ (((n + m : Nat) : Int) > IntKind.i64.max ∧ (false = true ∨ i.bytes = 0)) := by
        intro h; have := h.1; simp at this; omega
      simp only [Bool.false_eq_true, false_or] at hz1
      simp only [hz1, hk48, if_false, run_choose, Question.forced, Bool.false_eq_true, Result.andThen_ok, hcap, run_askRoom, hfo { w with drawn := w.drawn + 1 } hw.drew, Bool.not_false, if_true, hfirst { w with drawn := w.drawn + 1 } hw.drew]
      simp only [run_zeroValue hz, Result.andThen_ok, hzc, hzl1, newRow, Sem.run_bind, run_newObj, Sem.run_pure]
      simp [World.alloc]
    · have h5 := Ent.perm (c := c) (hpm.cons (Pw.row e w.heap.size (xs ++ news ++ zl))) _ hfr
      have h6 := h5.perm (List.Perm.swap _ _ _)
      have h7 : SL c (Pw.row e w.heap.size (xs ++ news ++ zl) :: R) (({ w with drawn := w.drawn + 1 } : World).alloc (.cells (xs ++ news ++ zl).toArray e (0, 0))) := ⟨h6.1, h6.2.1, h6.2.2.1, h6.2.2.2.tail⟩
      refine ⟨h7.1, h7.2.1, h7.2.2.1, h7.2.2.2.imp fun f hf => .inr ⟨w.heap.size, cap - (n + m), zl, by congr 1; omega, ?_, by simpa [hzl] using hzl2, hf⟩⟩
      rw [List.length_append, hol, hs.size, Nat.add_mul]
  rcases hsl with ⟨hv, hn, hxs⟩ | ⟨b, k, rest, hv, hxl, hrl, hrow⟩
  · by_cases hm0 : m = 0
    · subst hm0
      have hnews : news = [] := List.eq_nil_of_length_eq_zero (by rw [hs.size]; simp)
      subst hnews; subst hxs; subst hn; subst hv
      refine ⟨.slice none 0 0, _, w, ?_, rfl, ?_⟩
      · simp only [Builtin.append_, List.getElem?_toArray, List.getElem?_cons_zero, List.getElem?_cons_succ]
        simp only [Sem.run_bind, Sem.run_pure, Result.andThen_ok, run_underlying ht, run_underlying hds, run_sizeOf hsz, Bool.false_eq_true, if_false, hs.len, hfirst w hw, Nat.le_refl, Bool.not_false, if_true]
      · simpa using hw.perm hpm
    · subst hxs; subst hn
      exact fresh none 0 [] (by simp) rfl hv (by omega) (fun w' _ => by subst hv; simp [Builtin.firstCells])
  · by_cases hroom : n + m ≤ n + k
    · -- there is room
      subst hv
      have hw2 : SL c (Pw.row e b (xs ++ rest) :: R) w := ⟨e1, e2, e3, f1, f2, hdj, hf1, hf2, hrow, hl⟩
      obtain ⟨w', h3, h4⟩ := SL.storeCells (P := P) news (xs ++ rest) (n * (sz + 1)) 0 w R hw2 h1 (by
        rw [List.length_append, hs.size, hxl, hrl, ← Nat.add_mul, Nat.add_zero, ← Nat.add_mul]; exact Nat.mul_le_mul_right _ hroom)
      have hle : m * (sz + 1) ≤ k * (sz + 1) := Nat.mul_le_mul_right _ (by omega)
      have h5 : setAll (xs ++ rest) (n * (sz + 1) + 0) news = (xs ++ news) ++ rest.drop (m * (sz + 1)) := by
        rw [Nat.add_zero, setAll_eq _ _ _ (by rw [List.length_append, hs.size, hxl, hrl, ← Nat.add_mul, ← Nat.add_mul]; exact Nat.mul_le_mul_right _ hroom)]
        rw [← hxl, List.take_left, hs.size, List.drop_append, List.drop_of_length_le (by omega)]
        simp
      rw [h5] at h4
      refine ⟨.slice (some ⟨b, 0, none⟩) (n + m) (n + k), _, w', ?_, rfl, ?_⟩
      · simp only [Builtin.append_, List.getElem?_toArray, List.getElem?_cons_zero, List.getElem?_cons_succ]
        simp only [Sem.run_bind, Sem.run_pure, Result.andThen_ok, run_underlying ht, run_underlying hds, run_sizeOf hsz, Bool.false_eq_true, if_false, hs.len, hfirst w hw, hroom, Bool.not_false, if_true]
        rw [Addr.add_lit, Nat.zero_add]
        simp [h3]
      · refine ⟨h4.1, h4.2.1, h4.2.2.1, h4.2.2.2.imp fun f hf => .inr ⟨b, k - m, rest.drop (m * (sz + 1)), by congr 1; omega, ?_, ?_, hf⟩⟩
        · rw [List.length_append, hxl, hs.size, Nat.add_mul]
        · rw [List.length_drop, hrl, Nat.sub_mul]
    · subst hv
      refine fresh (some ⟨b, 0, none⟩) (n + k) xs hxl rfl rfl (by omega) (fun w' hw' => ?_)
      have hw3 := hw'.perm hpm
      obtain ⟨_, _, _, g1, g2, _, hg1, _, hsl', _⟩ := hw3
      rcases hsl' with ⟨hv', _, _⟩ | ⟨b', k', rest', hv', _, _, hrow'⟩
      · cases hv'
      · simp only [Value.slice.injEq, Option.some.injEq, Addr.mk.injEq] at hv'
        obtain ⟨⟨hbb, _, _⟩, _, hk⟩ := hv'
        subst hbb
        have := run_loadCells' (P := P) (w := w') (b := b) (o := 0) (vs := xs) (fun i u hu => (Reads.row (by
          rw [Nat.zero_add, List.getElem?_append_left (List.getElem?_eq_some_iff.1 hu).1]; exact hu)) g1 w' hrow' hg1)
        rw [hxl] at this
        simp [Builtin.firstCells, this]
end
end Pw
namespace Pw
open Go
section
variable {P : Program} {r : Rd} {c : Ctx} {L : List Assn} {E : Env} {d : Option Tmp} {ty : TypeId} {pos : String} {af : Array Edge} {g : Option (Nat × Bool)}

theorem sl.len {e : TypeId} {sz n : Nat} {v : Value} {xs : List Value} {f : Frag} (h : sl e sz v n xs f) : xs.length = n * sz := by
  rcases h with ⟨_, rfl, rfl⟩ | ⟨_, _, _, _, h, _⟩
  · simp
  · exact h
/-- A slice that owns its array is opened: its number of elements; it is nil, or a row of its own. -/
theorem T.open_sl {Q : Exit → Env → Rd → World → Prop} {code : Code} {e : TypeId} {sz n : Nat} {v : Value} {xs : List Value} {R : List Assn} (hd : Del (sl e sz v n xs) L R)
    (h0 : v = .slice none 0 0 → n = 0 → xs = [] → T P r c R code Q E)
    (h1 : ∀ b k rest, v = .slice (some ⟨b, 0, none⟩) n (n + k) → xs.length = n * sz → rest.length = k * sz → T P r c (row e b (xs ++ rest) :: R) code Q E) : T P r c L code Q E := fun w hw => by
  obtain ⟨e1, e2, e3, f1, f2, hdj, hf1, hf2, hsl, hl⟩ := hw.perm hd.perm
  rcases hsl with ⟨hv, hn, hxs⟩ | ⟨b, k, rest, hv, hxl, hrl, hrow⟩
  · exact h0 hv hn hxs w ⟨e1, e2, e3, hl.mono hf2⟩
  · exact h1 b k rest hv hxl hrl w ⟨e1, e2, e3, f1, f2, hdj, hf1, hf2, hrow, hl⟩
theorem TO.open_sl {Q : Exit → Env → Rd → World → Prop} {ops : Array Oper} {l : List Oper} {e : TypeId} {sz n : Nat} {v : Value} {xs : List Value} {R : List Assn} (hd : Del (sl e sz v n xs) L R)
    (h0 : v = .slice none 0 0 → n = 0 → xs = [] → TO P r c R ops Q l E)
    (h1 : ∀ b k rest, v = .slice (some ⟨b, 0, none⟩) n (n + k) → xs.length = n * sz → rest.length = k * sz → TO P r c (row e b (xs ++ rest) :: R) ops Q l E) : TO P r c L ops Q l E := fun w hw => by
  obtain ⟨e1, e2, e3, f1, f2, hdj, hf1, hf2, hsl, hl⟩ := hw.perm hd.perm
  rcases hsl with ⟨hv, hn, hxs⟩ | ⟨b, k, rest, hv, hxl, hrl, hrow⟩
  · exact h0 hv hn hxs w ⟨e1, e2, e3, hl.mono hf2⟩
  · exact h1 b k rest hv hxl hrl w ⟨e1, e2, e3, f1, f2, hdj, hf1, hf2, hrow, hl⟩
/-- .. and shut. -/
theorem Ent.sl {e : TypeId} {sz n k b : Nat} {xs rest : List Value} (hx : xs.length = n * sz) (hr : rest.length = k * sz) : Ent c (row e b (xs ++ rest) :: L) (Pw.sl e sz (.slice (some ⟨b, 0, none⟩) n (n + k)) n xs :: L) :=
  fun _ hw => ⟨hw.1, hw.2.1, hw.2.2.1, hw.2.2.2.imp fun _ hf => .inr ⟨b, k, rest, rfl, hx, hr, hf⟩⟩
theorem Ent.nil {e : TypeId} {sz : Nat} : Ent c L (Pw.sl e sz (.slice none 0 0) 0 [] :: L) :=
  fun _ hw => ⟨hw.1, hw.2.1, hw.2.2.1, fun _ => none, _, fun _ => .inl rfl, fun _ _ h => by simp at h, fun _ _ h => h, .inl ⟨rfl, rfl, rfl⟩, hw.2.2.2⟩
theorem D.lenO {x : Operand} {e te : TypeId} {sz n : Nat} {v : Value} {xs : List Value} {t : TypeId} (hx : E.eval x = v) (ht : P.underlying t = some (.slice te)) (hm : LMem (sl e sz v n xs) L) : D P c L E ⟨d, .call ⟨.builtin .len, #[x], #[t]⟩, ty, pos, af, g⟩ (.int .i64 ((n : Nat) : Int)) :=
  ⟨fun _ => by simp, fun w hw => by
    obtain ⟨f1, hsl, _⟩ := SLh.mem hm hw.2.2.2
    have : ∃ a cap, v = .slice a n cap := by
      rcases hsl with ⟨rfl, rfl, _⟩ | ⟨b, k, _, rfl, _⟩
      · exact ⟨_, _, rfl⟩
      · exact ⟨_, _, rfl⟩
    obtain ⟨a, cap, rfl⟩ := this
    exact (DP.lenS hx ht).2 w⟩

/-! ### make([]T, n) -/
theorem made_list (z : List Value) (hz : 0 < z.length) : ∀ n : Nat, ((Array.range (n * z.length)).map (z.toArray[· % z.toArray.size]!)) = ((List.replicate n z).flatten).toArray := by
  intro n
  apply Array.ext'
  apply List.ext_getElem?
  intro i
  simp only [Array.toList_map, Array.toList_range, List.getElem?_map]
  have key : ∀ (n i : Nat), (List.replicate n z).flatten[i]? = if i < n * z.length then z[i % z.length]? else none := by
    intro n
    induction n with
    | zero => intro i; simp
    | succ n ih =>
      intro i
      rw [List.replicate_succ, List.flatten_cons, List.getElem?_append]
      by_cases h : i < z.length
      · rw [if_pos h, Nat.mod_eq_of_lt h, if_pos (by rw [Nat.succ_mul]; omega)]
      · rw [if_neg h, ih]
        have e1 : (i - z.length) % z.length = i % z.length := by
          have : i = (i - z.length) + z.length := by omega
          conv => rhs; rw [this, Nat.add_mod_right]
        rw [e1]
        by_cases h2 : i - z.length < n * z.length
        · rw [if_pos h2, if_pos (by rw [Nat.succ_mul]; omega)]
        · rw [if_neg h2, if_neg (by rw [Nat.succ_mul]; omega)]
  rw [key]
  by_cases h : i < n * z.length
  · have hm : i % z.length < z.length := Nat.mod_lt _ hz
    rw [List.getElem?_range h, if_pos h]
    simp [hm]
  · rw [if_neg h]; simp; omega

theorem N.mk {x y : Operand} {k k' : IntKind} {n sz : Nat} {t e : TypeId} {z : Value} {zs : List Value} {by_ : Nat} (hx : E.eval x = .int k n) (hy : E.eval y = .int k' n) (ht : P.underlying t = some (.slice e)) (hsz : P.cellsOf e = sz + 1) (hb : P.bytesOf e = by_)
    (hz : P.zeroOf e = some z) (hzc : z.cells = zs.toArray) (hzl : zs.length = sz + 1) (hlim : n * (by_ + 1) ≤ 281474976710656) :
    N P r c L E ⟨d, .makeSlice t x y, ty, pos, af, g⟩ (fun v L' => ∃ b, v = .slice (some ⟨b, 0, none⟩) n n ∧ L' = row e b (List.replicate n zs).flatten :: L) := by
  refine N.value (fun _ => by simp) fun w hw => ?_
  obtain ⟨i, hi, hie⟩ : ∃ i, P.info? e = some i ∧ i.bytes = by_ := by
    unfold Program.cellsOf at hsz
    cases hi : P.info? e with
    | none => simp [hi] at hsz
    | some i => exact ⟨i, rfl, by unfold Program.bytesOf at hb; simpa [hi] using hb⟩
  have hti : ∀ w, (typeInfo e).run P w = .ok i w := fun w => by simp [typeInfo, hi]
  have hn : n ≤ 281474976710656 := Nat.le_trans (Nat.le_mul_of_pos_right _ (by omega)) hlim
  have hbn : by_ * n ≤ 281474976710656 := by rw [Nat.mul_comm]; exact Nat.le_trans (Nat.mul_le_mul_left _ (by omega)) hlim
  have hw64 : IntKind.i64.wrap (n : Int) = n := wrap_nat (by simp [IntKind.lim, IntKind.signed, IntKind.bits]; omega)
  have hbi : ((by_ * n : Nat) : Int) ≤ 281474976710656 := by omega
  rw [Int.natCast_mul] at hbi
  have hbad : ¬ ((decide ((n : Int) < 0) || decide ((by_ : Int) * (n : Int) > 2 ^ 48) || decide ((n : Int) < 0) || decide ((n : Int) > (n : Int))) = true) := by
    simp; omega
  refine ⟨.slice (some ⟨w.heap.size, 0, none⟩) n n, _, w.alloc (.cells (List.replicate n zs).flatten.toArray e (0, 0)), ?_, ⟨w.heap.size, rfl, rfl⟩, SL.toRow (fun o _ => notIn.zero o) (hw.alloc _)⟩
  have hml := made_list zs (by omega) n
  rw [hzl] at hml
  simp only [execOp, hx, hy, Instr.makeSlice]
  simp only [Sem.run_bind, Sem.run_pure, Result.andThen_ok, run_underlying ht, asInt, run_asIntOf, hti, hw64, hie, Sem.run_ite, hbad, run_askRoom, run_sizeOf hsz, Int.toNat_natCast]
  by_cases h0 : n = 0
  · subst h0
    simp [newRow, Array.range_zero']
  · have h' : ¬ (n * (sz + 1) = 0) := fun hh => by rcases Nat.mul_eq_zero.1 hh with h | h <;> omega
    rw [if_neg h']
    simp [run_zeroValue hz, hzc, newRow] at hml ⊢
    rw [hml]

/-! ### []T{x} -/
theorem N.bs1 {x : Operand} {v z : Value} {t e : TypeId} (hx : E.eval x = v) (hv : v.oneCell' = true) (ht : P.underlying t = some (.slice e)) (hsz : P.cellsOf e = 1) (hz : P.zeroOf e = some z) :
    N P r c L E ⟨d, .buildSlice t 1 #[(0, x)], ty, pos, af, g⟩ (fun u L' => ∃ b, u = .slice (some ⟨b, 0, none⟩) 1 1 ∧ L' = row e b [v] :: L) := by
  refine N.value (fun _ => by simp) fun w hw => ?_
  refine ⟨.slice (some ⟨w.heap.size, 0, none⟩) 1 1, _, w.alloc (.cells [v].toArray e (0, 0)), ?_, ⟨w.heap.size, rfl, rfl⟩, SL.toRow (fun o _ => notIn.zero o) (hw.alloc _)⟩
  have hvc : v.cells = #[v] := by cases v <;> first | rfl | (simp [Value.oneCell'] at hv)
  simp [execOp, hx, Instr.buildSlice, run_underlying ht, run_sizeOf (n := 0) hsz, run_zeroValue hz, Instr.fill, hvc, newRow]
  have hr1 : Array.range 1 = #[0] := by decide
  have hr2 : (Array.map (fun x => z.cells[x % z.cells.size]!) #[0]).setIfInBounds 0 v = #[v] := by simp
  rw [hr1, hr2]

/-! ### copy -/
theorem N.cpT {x y : Operand} {b o n cap m sz : Nat} {t xt e : TypeId} {xv : Value} {cs news : List Value} {L' : List Assn} (hx : E.eval x = .slice (some ⟨b, o, none⟩) n cap) (hy : E.eval y = xv) (ht : P.underlying t = some (.slice e)) (hsz : P.cellsOf e = sz + 1)
    (hs : Src P c L (sz + 1) xt xv m news) (h1 : ∀ u ∈ news.take (min m n * (sz + 1)), u.oneCell' = true) (hp : Put (row e b cs) L (row e b (setAll cs o (news.take (min m n * (sz + 1))))) L') (ho : o + min m n * (sz + 1) ≤ cs.length) :
    N P r c L E ⟨d, .call ⟨.builtin .copy, #[x, y], #[t, xt]⟩, ty, pos, af, g⟩ (fun v L'' => v = .int .i64 ((min m n : Nat) : Int) ∧ L'' = L') := by
  refine N.value (fun _ => by simp) fun w hw => ?_
  obtain ⟨R, h1p, h2p⟩ := hp.del
  obtain ⟨w', k1, k2⟩ := SL.storeCells (P := P) (news.take (min m n * (sz + 1))) cs o 0 w R (hw.perm h1p) h1 (by rw [List.length_take]; omega)
  refine ⟨.int .i64 ((min m n : Nat) : Int), _, w', ?_, ⟨rfl, rfl⟩, k2.perm (by simpa using h2p.symm)⟩
  have hmn : Nat.min m n = min m n := rfl
  have hrun : (execOp E.eval ⟨d, .call ⟨.builtin .copy, #[x, y], #[t, xt]⟩, ty, pos, af, g⟩).run P w = ((Builtin.copy_ #[t, xt] ty #[.slice (some ⟨b, o, none⟩) n cap, xv]).run P w).andThen (fun a w' => Result.ok (Next.value a) w') := by
    simp [execOp, resolve, invoke, builtin, hx, hy]
  rw [hrun]
  simp only [Builtin.copy_, List.getElem?_toArray, List.getElem?_cons_zero, List.getElem?_cons_succ]
  simp only [Sem.run_bind, Sem.run_pure, Result.andThen_ok, run_underlying ht, hs.len, run_sizeOf hsz, hmn, hs.first w hw _ (Nat.min_le_left m n)]
  rw [k1]
  simp [goInt]

theorem N.cp {x y : Operand} {b o n cap m sz : Nat} {t xt e : TypeId} {xv : Value} {cs news : List Value} {L' : List Assn} (hx : E.eval x = .slice (some ⟨b, o, none⟩) n cap) (hy : E.eval y = xv) (ht : P.underlying t = some (.slice e)) (hsz : P.cellsOf e = sz + 1)
    (hs : Src P c L (sz + 1) xt xv m news) (h1 : ∀ u ∈ news, u.oneCell' = true) (hp : Put (row e b cs) L (row e b (setAll cs o (news.take (min m n * (sz + 1))))) L') (ho : o + min m n * (sz + 1) ≤ cs.length) :
    N P r c L E ⟨d, .call ⟨.builtin .copy, #[x, y], #[t, xt]⟩, ty, pos, af, g⟩ (fun v L'' => v = .int .i64 ((min m n : Nat) : Int) ∧ L'' = L') :=
  N.cpT hx hy ht hsz hs (fun u hu => h1 u (List.mem_of_mem_take hu)) hp ho

/-! ## Functions -/
/-- The results of a function, read off its frame. -/
def RV (P : Program) (c : Ctx) (L : List Assn) (E : Env) : List ResultVar → List Value → Prop
  | [], vs => vs = []
  | .tmp t :: rs, v :: vs => E.get t = v ∧ RV P c L E rs vs
  | .cell t ty :: rs, v :: vs => (∀ w, SL c L w → (do loadVar ty (← asAddr (E.get t)) : Sem Value).run P w = .ok v w) ∧ RV P c L E rs vs
  | _ :: _, [] => False

def asResult : List Value → Value
  | [v] => v
  | vs => .tuple vs.toArray

theorem RV.run {L : List Assn} {E : Env} : ∀ {rs : List ResultVar} {vs : List Value}, RV P c L E rs vs → ∀ w, SL c L w →
    (rs.mapM (fun | .tmp t => pure (E.act.tmps.getD t undef) | .cell a t => do loadVar t (← asAddr (E.act.tmps.getD a undef)) : ResultVar → Sem Value)).run P w = .ok vs w
  | [], vs, h, w, _ => by simp only [RV] at h; subst h; rfl
  | .tmp t :: rs, v :: vs, h, w, hw => by
    have ih := RV.run h.2 w hw
    rw [List.mapM_cons]
    simp only [Sem.run_bind, Sem.run_pure, Result.andThen_ok]
    rw [ih, show E.act.tmps.getD t undef = v from (E.act_get t).trans h.1]
    rfl
  | .cell t ty :: rs, v :: vs, h, w, hw => by
    have h1 := h.1 w hw
    have ih := RV.run h.2 w hw
    rw [List.mapM_cons]
    dsimp only
    rw [show E.act.tmps.getD t undef = E.get t from E.act_get t, Sem.run_bind, h1]
    simp only [Sem.run_bind, Sem.run_pure, Result.andThen_ok]
    rw [ih]
    rfl

theorem RV.results {fn : Func} {rs : List ResultVar} (hr : fn.results = rs.toArray) {vs : List Value} (h : RV P c L E rs vs) (w : World) (hw : SL c L w) : (Go.results fn E.act.tmps).run P w = .ok (asResult vs) w := by
  unfold Go.results
  rw [hr]
  simp only [Sem.run_bind, List.mapM_toArray, Sem.run_map, Sem.run_pure]
  erw [RV.run h w hw]
  simp only [Result.andThen_ok]
  congr 1
  rcases vs with _ | ⟨v, _ | ⟨u, vs⟩⟩ <;> simp [asResult]

/-- Called so, holding A (and whatever else), function f returns; what it returns and what is held then is of B. -/
def Sat (P : Program) (f : FuncId) (args : List Value) (A : List Assn) (B : Value → List Assn → Prop) : Prop :=
  ∀ (c : Ctx) (R : List Assn) (w : World), SL c (A ++ R) w → CallsIn (Wf R0) 0 P f args.toArray w fun e w' => ∃ v L', e = .returned v ∧ B v L' ∧ SL c (L' ++ R) w'

/-- The blocks of the marks. -/
def marks : List Nat → List Assn → List Assn
  | [], R => R
  | b :: l, R => pt b (.deferred (some [])) :: marks l R
def retQ (P : Program) (fn : Func) (c : Ctx) (R : List Assn) (B : Value → List Assn → Prop) (C : List PanicEntry → List Assn → Prop) : Exit → Env → Rd → World → Prop := fun e E r w =>
  (∃ ch, e = .panic ch ∧ r.dm = [] ∧ r.dc = [] ∧ ∃ L', C ch L' ∧ SL c (L' ++ R) w) ∨ (e = .ret ∨ e = .normal) ∧ r.dc = [] ∧ ∃ v L0 L', (∀ w', SL c L0 w' → (results fn E.act.tmps).run P w' = .ok v w') ∧ B v L' ∧ Ent c L0 (L' ++ R) ∧ SL c (marks r.dm L0) w

def slots : Nat → List Value → List (Nat × Value)
  | _, [] => []
  | k, v :: vs => (k, v) :: slots (k + 1) vs
theorem look_slots (d : Value) : ∀ (vs : List Value) (k t : Nat), look (slots k vs) t d = if k ≤ t then vs[t - k]?.getD d else d
  | [], k, t => by simp [slots, look]
  | v :: vs, k, t => by
    rw [slots, look, look_slots d vs (k + 1) t]
    by_cases h : k = t
    · subst h; simp
    · have hb : Nat.beq k t = false := by
        cases hh : Nat.beq k t with
        | false => rfl
        | true => exact absurd (Nat.eq_of_beq_eq_true hh) h
      rw [hb]
      by_cases h2 : k ≤ t
      · have : t - k = (t - (k + 1)) + 1 := by omega
        rw [if_pos (by omega), if_pos h2, this]
        simp
      · rw [if_neg (by omega), if_neg h2]; rfl

theorem leaves_marks {fn : Func} {tmps : Array Value} {L : List Assn} {R : Ending → World → Prop} (h : ∀ w, SL c L w → ∃ v, (results fn tmps).run P w = .ok v w ∧ R (.returned v) w) : ∀ (l : List Nat) (w : World), SL c (marks l L) w →
    LeavesInM (Wf R0) 0 P fn tmps R (l.map fun b => { target := .collected b, args := #[] }) .returning w
  | [], w, hw => h w hw
  | b :: l, w, hw => by
    have hb : w.heap[b]? = some (.deferred (some [])) := SL.heap (show SL c (pt b (.deferred (some [])) :: marks l L) w from hw) (.head _ _)
    have h2 : SL c (pt b (.deferred none) :: marks l L) { w with heap := w.heap.setIfInBounds b (.deferred none) } := SL.setObj (show SL c (pt b (.deferred (some [])) :: marks l L) w from hw) rfl rfl rfl (MapKept.heap_set hb).1 (MapKept.heap_set hb).2
    refine ⟨by simp, .inl ⟨b, _, rfl, ?_, leaves_marks h l _ ⟨h2.1, h2.2.1, h2.2.2.1, h2.2.2.2.tail⟩⟩⟩
    have e1 : (getObj b).run P w = .ok (.deferred (some [])) w := by simp [getObj, Sem.run, hb]
    have e2 : (setObj b (.deferred none)).run P w = .ok () { w with heap := w.heap.setIfInBounds b (.deferred none) } := by simp [setObj, Sem.run, hb]
    simp only [Instr.takeDeferred, Sem.run_bind, e1, Result.andThen_ok, e2, Sem.run_pure]
/-- .. in this very setting -/
def SatC (P : Program) (c : Ctx) (f : FuncId) (args : List Value) (A : List Assn) (B : Value → List Assn → Prop) : Prop :=
  ∀ (R : List Assn) (w : World), SL c (A ++ R) w → CallsIn (Wf R0) 0 P f args.toArray w fun e w' => ∃ v L', e = .returned v ∧ B v L' ∧ SL c (L' ++ R) w'
def SatEC (P : Program) (c : Ctx) (f : FuncId) (args : List Value) (A : List Assn) (B : Value → List Assn → Prop) (C : List PanicEntry → List Assn → Prop) : Prop :=
  ∀ (R : List Assn) (w : World), SL c (A ++ R) w → CallsIn (Wf R0) 0 P f args.toArray w fun e w' => (∃ v L', e = .returned v ∧ B v L' ∧ SL c (L' ++ R) w') ∨ ∃ ch L', e = .panicked ch ∧ C ch L' ∧ SL c (L' ++ R) w'
/-- .. it may panic. -/
def SatE (P : Program) (f : FuncId) (args : List Value) (A : List Assn) (B : Value → List Assn → Prop) (C : List PanicEntry → List Assn → Prop) : Prop := ∀ c, SatEC P c f args A B C
theorem env_enter {args : List Value} {n m : Nat} (hn : m = n) (hle : Nat.ble args.length n = true) : ({ tmps := args.toArray ++ Array.replicate (m - args.toArray.size) undef, defers := [] } : Act) = ({ n := n, l := slots 0 args, g := fun _ => undef } : Env).act := by
  have hle' := Nat.le_of_ble_eq_true hle
  unfold Env.act
  congr 1
  apply Array.ext
  · simp [hn]; omega
  · intro i h1 h2
    simp only [Array.size_ofFn] at h2
    rw [Array.getElem_ofFn, look_slots]
    simp only [Nat.zero_le, if_true, Nat.sub_zero]
    rw [Array.getElem_append]
    split
    · rename_i h3
      simp at h3
      simp [h3]
    · rename_i h3
      simp at h3
      simp [h3]
theorem SatEC.enter {f : FuncId} {fn : Func} {code : Code} {args : List Value} {A : List Assn} {B : Value → List Assn → Prop} {C : List PanicEntry → List Assn → Prop} (hf : P.funcs[f]? = some fn) (hb : fn.body = some code) {n : Nat} (hn : fn.ntmps = n) (hle : Nat.ble args.length n = true)
    (h : ∀ R, T P R0 c (A ++ R) code (retQ P fn c R B C) { n := n, l := slots 0 args, g := fun _ => undef }) : SatEC P c f args A B C := fun R w hw => by
  refine callsIn_of_wp_marks hf hb trivial ?_
  rw [env_enter hn hle]
  refine wpIn_mono (h R w hw) ?_
  rintro ex a w' ⟨E', r', rfl, ⟨ch, rfl, hdm, hdc, L', hC, hw'⟩ | ⟨hex, hdc, v, L0, L', h1, h2, h3, h4⟩⟩
  · show LeavesInM _ _ _ _ _ _ r'.df _ _
    rw [show r'.df = [] from by unfold Rd.df; rw [hdm, hdc]; rfl]
    exact .inr ⟨ch, L', rfl, hC, hw'⟩
  · have key := leaves_marks (fn := fn) (R := fun e w' => (∃ v L', e = .returned v ∧ B v L' ∧ SL c (L' ++ R) w') ∨ ∃ ch L', e = .panicked ch ∧ C ch L' ∧ SL c (L' ++ R) w') (tmps := E'.act.tmps) (fun w' hw' => ⟨v, h1 w' hw', .inl ⟨v, L', rfl, h2, h3 w' hw'⟩⟩) r'.dm w' h4
    have hdf : (r'.dm.map fun b => ({ target := .collected b, args := #[] } : Deferred)) = r'.df := by unfold Rd.df; rw [hdc, List.append_nil]
    rw [hdf] at key
    rcases hex with rfl | rfl
    · exact key
    · exact key
abbrev noC : List PanicEntry → List Assn → Prop := fun _ _ => False
theorem SatEC.calm {f : FuncId} {args : List Value} {A : List Assn} {B : Value → List Assn → Prop} (h : SatEC P c f args A B noC) : SatC P c f args A B := fun R w hw => CallsIn.mono (h R w hw) fun e w' h => by
  rcases h with h | ⟨_, _, _, h, _⟩
  · exact h
  · exact h.elim
theorem SatC.enter {f : FuncId} {fn : Func} {code : Code} {args : List Value} {A : List Assn} {B : Value → List Assn → Prop} (hf : P.funcs[f]? = some fn) (hb : fn.body = some code) {n : Nat} (hn : fn.ntmps = n) (hle : Nat.ble args.length n = true)
    (h : ∀ R, T P R0 c (A ++ R) code (retQ P fn c R B noC) { n := n, l := slots 0 args, g := fun _ => undef }) : SatC P c f args A B := (SatEC.enter hf hb hn hle h).calm
theorem Sat.enter {f : FuncId} {fn : Func} {code : Code} {args : List Value} {A : List Assn} {B : Value → List Assn → Prop} (hf : P.funcs[f]? = some fn) (hb : fn.body = some code) {n : Nat} (hn : fn.ntmps = n) (hle : Nat.ble args.length n = true)
    (h : ∀ c R, T P R0 c (A ++ R) code (retQ P fn c R B noC) { n := n, l := slots 0 args, g := fun _ => undef }) : Sat P f args A B := fun c => SatC.enter hf hb hn hle (h c)
theorem SatE.enter {f : FuncId} {fn : Func} {code : Code} {args : List Value} {A : List Assn} {B : Value → List Assn → Prop} {C : List PanicEntry → List Assn → Prop} (hf : P.funcs[f]? = some fn) (hb : fn.body = some code) {n : Nat} (hn : fn.ntmps = n) (hle : Nat.ble args.length n = true)
    (h : ∀ c R, T P R0 c (A ++ R) code (retQ P fn c R B C) { n := n, l := slots 0 args, g := fun _ => undef }) : SatE P f args A B C := fun c => SatEC.enter hf hb hn hle (h c)
theorem Calm.rt {fn : Func} {c : Ctx} {R : List Assn} {B : Value → List Assn → Prop} {C : List PanicEntry → List Assn → Prop} : Calm (retQ P fn c R B C) := fun ch E E' r w h => by
  rcases h with ⟨ch', h1, h2⟩ | ⟨h | h, _⟩
  · exact .inl ⟨ch', h1, h2⟩
  · cases h
  · cases h
theorem Calm.t {y : Code} {Q : Exit → Env → Rd → World → Prop} (h : Calm Q) : Calm (thenQ P r y Q) := h
theorem Calm.b {id : Nat} {Q : Exit → Env → Rd → World → Prop} (h : Calm Q) : Calm (blockQ id Q) := h
theorem Calm.ct {S : Type} {n : Nat} {sl : S → List (Nat × Value)} {H : S → List Assn} {I : S → Prop} {Q : Exit → Env → Rd → World → Prop} (h : Calm Q) : Calm (cutQ r c n sl H I Q) := h
theorem Calm.l {S : Type} {n : Nat} {sl : S → List (Nat × Value)} {H : S → List Assn} {I : S → Prop} {μ : S → Nat} {s : S} {Q : Exit → Env → Rd → World → Prop} (h : Calm Q) : Calm (loopQ r c n sl H I μ s Q) := h

/-- The end of a function. -/
theorem TQ.ret {C : List PanicEntry → List Assn → Prop} {fn : Func} {R : List Assn} {B : Value → List Assn → Prop} {rs : List ResultVar} {vs : List Value} {L' : List Assn} (hr : fn.results = rs.toArray) (hv : RV P c L E rs vs) (hB : B (asResult vs) L') (hL : Ent c L (L' ++ R)) : TQ R0 c L (retQ P fn c R B C) .ret E :=
  fun w hw => .inr ⟨.inl rfl, rfl, _, L, L', hv.results hr, hB, hL, hw⟩
theorem TQ.end {C : List PanicEntry → List Assn → Prop} {fn : Func} {R : List Assn} {B : Value → List Assn → Prop} {rs : List ResultVar} {vs : List Value} {L' : List Assn} (hr : fn.results = rs.toArray) (hv : RV P c L E rs vs) (hB : B (asResult vs) L') (hL : Ent c L (L' ++ R)) : TQ R0 c L (retQ P fn c R B C) .normal E :=
  fun w hw => .inr ⟨.inr rfl, rfl, _, L, L', hv.results hr, hB, hL, hw⟩
/-- .. behind ranges over functions. -/
theorem TQ.retM {L0 : List Assn} {C : List PanicEntry → List Assn → Prop} {fn : Func} {R : List Assn} {B : Value → List Assn → Prop} {rs : List ResultVar} {vs : List Value} {L' : List Assn} (hm : Ent c L (marks r.dm L0)) (hr : fn.results = rs.toArray) (hv : RV P c L0 E rs vs) (hB : B (asResult vs) L') (hL : Ent c L0 (L' ++ R)) (hz : r.dc = [] := by rfl) : TQ r c L (retQ P fn c R B C) .ret E :=
  fun w hw => .inr ⟨.inl rfl, hz, _, L0, L', hv.results hr, hB, hL, hm w hw⟩
theorem TQ.endM {L0 : List Assn} {C : List PanicEntry → List Assn → Prop} {fn : Func} {R : List Assn} {B : Value → List Assn → Prop} {rs : List ResultVar} {vs : List Value} {L' : List Assn} (hm : Ent c L (marks r.dm L0)) (hr : fn.results = rs.toArray) (hv : RV P c L0 E rs vs) (hB : B (asResult vs) L') (hL : Ent c L0 (L' ++ R)) (hz : r.dc = [] := by rfl) : TQ r c L (retQ P fn c R B C) .normal E :=
  fun w hw => .inr ⟨.inr rfl, hz, _, L0, L', hv.results hr, hB, hL, hm w hw⟩

def evL (E : Env) : List Operand → List Value → Prop
  | [], [] => True
  | x :: xs, v :: vs => E.eval x = v ∧ evL E xs vs
  | _, _ => False
theorem evL.map {E : Env} : ∀ {xs : List Operand} {vs : List Value}, evL E xs vs → xs.map E.eval = vs
  | [], [], _ => rfl
  | _ :: _, _ :: _, h => by simp [h.1, evL.map h.2]
  | [], _ :: _, h => h.elim
  | _ :: _, [], h => h.elim

/-- A call. -/
theorem N.call {fo : Operand} {xs : List Operand} {ats : Array TypeId} {f : FuncId} {first cap vs : List Value} {A R : List Assn} {B : Value → List Assn → Prop}
    (hf : E.eval fo = .func (.func f) first.toArray cap.toArray) (hs : Sat P f (first ++ vs ++ cap) A B) (hc : ∀ args w, (callFunc f args).run P w = .ok (.enter f args) w) (ha : evL E xs vs) (hp : Pick A L R) :
    N P r c L E ⟨d, .call ⟨.value fo, xs.toArray, ats⟩, ty, pos, af, g⟩ (fun v L' => ∃ L1, B v L1 ∧ L1 ++ R = L') := fun w hw K Q hK => by
  refine ⟨fun _ _ => trivial, ?_⟩
  rw [Oper.semAt_eq _ _ _ (fun _ => by simp), E.acd_eval]
  have hrun : (execOp E.eval ⟨d, .call ⟨.value fo, xs.toArray, ats⟩, ty, pos, af, g⟩).run P w = .ok (.enter f (first ++ vs ++ cap).toArray) w := by
    simp [execOp, resolve, Deferred.ofValue, hf, invoke, evL.map ha, hc]
  rw [hrun]
  refine ⟨fun h => (by cases h), ?_⟩
  refine CallsIn.mono (hs c R w (hw.perm hp.perm)) ?_
  rintro e w' ⟨v, L', rfl, hB, hw'⟩
  exact hK v _ w' ⟨L', hB, rfl⟩ hw'
theorem N.callF {xs : List Operand} {ats : Array TypeId} {f : FuncId} {vs : List Value} {A R : List Assn} {B : Value → List Assn → Prop}
    (hs : Sat P f vs A B) (hc : ∀ args w, (callFunc f args).run P w = .ok (.enter f args) w) (ha : evL E xs vs) (hp : Pick A L R) :
    N P r c L E ⟨d, .call ⟨.value (.func f), xs.toArray, ats⟩, ty, pos, af, g⟩ (fun v L' => ∃ L1, B v L1 ∧ L1 ++ R = L') :=
  N.call (first := []) (cap := []) rfl (by simpa using hs) hc ha hp

theorem DP.mf {fn : Go.Fn} {xs ys : Array Operand} {us vs : Array Value} (h1 : xs.map E.eval = us) (h2 : ys.map E.eval = vs) : DP P E ⟨d, .makeFunc fn xs ys, ty, pos, af, g⟩ (.func fn us vs) :=
  ⟨fun _ => by simp, fun w => by simp [execOp, Instr.makeFunc, h1, h2]⟩
theorem Sat.mono {f : FuncId} {args : List Value} {A : List Assn} {B B' : Value → List Assn → Prop} (h : Sat P f args A B) (hB : ∀ v L', B v L' → B' v L') : Sat P f args A B' := fun c R w hw =>
  CallsIn.mono (h c R w hw) fun _ _ ⟨v, L', he, hb, hw'⟩ => ⟨v, L', he, hB v L' hb, hw'⟩
end
end Pw
namespace Pw
open Go
section
variable {P : Program} {r : Rd} {c : Ctx} {L : List Assn} {Q : Exit → Env → Rd → World → Prop}
section
variable {nt : Nat} {l : List (Nat × Value)} {gb : Nat → Value} {ops : Array Oper} {rest : List Oper} {ds : Nat} {op : Op} {ty : TypeId} {pos : String} {af : Array Edge}
/-- A test that a guard looks at: its two ways. -/
theorem TO.pB {p : Prop} {inst : Decidable p} (h : DP P ⟨nt, l, gb⟩ ⟨some ds, op, ty, pos, af, none⟩ (.bool (@decide p inst)))
    (kt : p → TO P r c L ops Q rest ⟨nt, (ds, .bool true) :: l, gb⟩) (kf : ¬ p → TO P r c L ops Q rest ⟨nt, (ds, .bool false) :: l, gb⟩) : TO P r c L ops Q (⟨some ds, op, ty, pos, af, none⟩ :: rest) ⟨nt, l, gb⟩ := by
  by_cases hp : p
  · exact TO.p (by rw [decide_eq_true hp] at h; exact h) (kt hp)
  · exact TO.p (by rw [decide_eq_false hp] at h; exact h) (kf hp)
theorem TO.pb {b : Bool} (h : DP P ⟨nt, l, gb⟩ ⟨some ds, op, ty, pos, af, none⟩ (.bool b))
    (kt : b = true → TO P r c L ops Q rest ⟨nt, (ds, .bool true) :: l, gb⟩) (kf : b = false → TO P r c L ops Q rest ⟨nt, (ds, .bool false) :: l, gb⟩) : TO P r c L ops Q (⟨some ds, op, ty, pos, af, none⟩ :: rest) ⟨nt, l, gb⟩ := by
  cases b
  · exact TO.p h (kf rfl)
  · exact TO.p h (kt rfl)
/-- .. itself behind a guard. -/
theorem TO.onB {p : Prop} {inst : Decidable p} {j : Nat} {want : Bool} (hy : Env.yl ⟨nt, l, gb⟩ ops j = some want) (h : DP P ⟨nt, l, gb⟩ ⟨some ds, op, ty, pos, af, some (j, want)⟩ (.bool (@decide p inst)))
    (kt : p → TO P r c L ops Q rest ⟨nt, (ds, .bool true) :: l, gb⟩) (kf : ¬ p → TO P r c L ops Q rest ⟨nt, (ds, .bool false) :: l, gb⟩) : TO P r c L ops Q (⟨some ds, op, ty, pos, af, some (j, want)⟩ :: rest) ⟨nt, l, gb⟩ := by
  by_cases hp : p
  · exact TO.onP hy (by rw [decide_eq_true hp] at h; exact h) (kt hp)
  · exact TO.onP hy (by rw [decide_eq_false hp] at h; exact h) (kf hp)
theorem TO.onb {b : Bool} {j : Nat} {want : Bool} (hy : Env.yl ⟨nt, l, gb⟩ ops j = some want) (h : DP P ⟨nt, l, gb⟩ ⟨some ds, op, ty, pos, af, some (j, want)⟩ (.bool b))
    (kt : b = true → TO P r c L ops Q rest ⟨nt, (ds, .bool true) :: l, gb⟩) (kf : b = false → TO P r c L ops Q rest ⟨nt, (ds, .bool false) :: l, gb⟩) : TO P r c L ops Q (⟨some ds, op, ty, pos, af, some (j, want)⟩ :: rest) ⟨nt, l, gb⟩ := by
  cases b
  · exact TO.onP hy h (kf rfl)
  · exact TO.onP hy h (kt rfl)
end
end

section
variable {P : Program} {E : Env} {d : Option Tmp} {ty : TypeId} {pos : String} {af : Array Edge} {g : Option (Nat × Bool)}
theorem DP.pkT {x y z : Operand} {v : Value} (hx : E.eval x = .bool true) (hy : E.eval y = v) : DP P E ⟨d, .pick x y z, ty, pos, af, g⟩ v :=
  ⟨fun _ => by simp, fun w => by simp [execOp, hx, asBool, hy]⟩
theorem DP.pkF {x y z : Operand} {v : Value} (hx : E.eval x = .bool false) (hz : E.eval z = v) : DP P E ⟨d, .pick x y z, ty, pos, af, g⟩ v :=
  ⟨fun _ => by simp, fun w => by simp [execOp, hx, asBool, hz]⟩

/-! ### against nil -/
theorem run_eqPtrNil {t e : TypeId} (n : Nat) (p : Option Addr) (ht : P.underlying t = some (.pointer e)) (w : World) : (Op.equalIn (n + 1) t (.pointer p) (.pointer none)).run P w = .ok p.isNone w := by
  cases p <;> simp [Op.equalIn, run_underlying ht]
theorem DP.peq {x y : Operand} {p : Option Addr} {t t' e : TypeId} (hx : E.eval x = .pointer p) (hy : E.eval y = .pointer none) (ht : P.underlying t = some (.pointer e)) : DP P E ⟨d, .binOp .eql t x y t', ty, pos, af, g⟩ (.bool p.isNone) :=
  ⟨fun _ => by simp, fun w => by
    have h := run_eqPtrNil 9999 p ht w
    simp only [execOp, hx, hy, eqGuard_at_pointer, binOp, Sem.run_bind, Sem.run_pure, Result.andThen_ok]
    rw [show Op.equal t (.pointer p) (.pointer none) = Op.equalIn (9999 + 1) t (.pointer p) (.pointer none) from rfl, h]
    rfl⟩
theorem DP.pne {x y : Operand} {p : Option Addr} {t t' e : TypeId} (hx : E.eval x = .pointer p) (hy : E.eval y = .pointer none) (ht : P.underlying t = some (.pointer e)) : DP P E ⟨d, .binOp .neq t x y t', ty, pos, af, g⟩ (.bool (!p.isNone)) :=
  ⟨fun _ => by simp, fun w => by
    have h := run_eqPtrNil 9999 p ht w
    simp only [execOp, hx, hy, eqGuard_at_pointer, binOp, Sem.run_bind, Sem.run_pure, Result.andThen_ok]
    rw [show Op.equal t (.pointer p) (.pointer none) = Op.equalIn (9999 + 1) t (.pointer p) (.pointer none) from rfl, h]
    rfl⟩
theorem DP.peqS {x y : Operand} {a : Addr} {t t' e : TypeId} (hx : E.eval x = .pointer (some a)) (hy : E.eval y = .pointer none) (ht : P.underlying t = some (.pointer e)) : DP P E ⟨d, .binOp .eql t x y t', ty, pos, af, g⟩ (.bool false) := DP.peq hx hy ht
theorem DP.peq0 {x y : Operand} {t t' e : TypeId} (hx : E.eval x = .pointer none) (hy : E.eval y = .pointer none) (ht : P.underlying t = some (.pointer e)) : DP P E ⟨d, .binOp .eql t x y t', ty, pos, af, g⟩ (.bool true) := DP.peq hx hy ht
theorem DP.pneS {x y : Operand} {a : Addr} {t t' e : TypeId} (hx : E.eval x = .pointer (some a)) (hy : E.eval y = .pointer none) (ht : P.underlying t = some (.pointer e)) : DP P E ⟨d, .binOp .neq t x y t', ty, pos, af, g⟩ (.bool true) := DP.pne hx hy ht
theorem DP.pne0 {x y : Operand} {t t' e : TypeId} (hx : E.eval x = .pointer none) (hy : E.eval y = .pointer none) (ht : P.underlying t = some (.pointer e)) : DP P E ⟨d, .binOp .neq t x y t', ty, pos, af, g⟩ (.bool false) := DP.pne hx hy ht

/-! ### struct and array values -/
def placesOf (P : Program) (t : TypeId) : Option (List (Nat × Nat)) :=
  match P.underlying t with
  | some (.struct fs) => if fs.toList.all (fun f => P.cellsOf f.type != 0) then some (fs.toList.map fun f => (f.offset, P.cellsOf f.type)) else none
  | _ => none
theorem run_places : ∀ (fs : List Field), (fs.all (fun f => P.cellsOf f.type != 0)) = true → ∀ w, (fs.mapM (fun f => do pure (f.offset, ← Go.sizeOf f.type) : Field → Sem (Nat × Nat))).run P w = .ok (fs.map fun f => (f.offset, P.cellsOf f.type)) w
  | [], _, w => rfl
  | f :: fs, h, w => by
    simp only [List.all_cons, Bool.and_eq_true, bne_iff_ne] at h
    obtain ⟨n, hn⟩ : ∃ n, P.cellsOf f.type = n + 1 := ⟨P.cellsOf f.type - 1, by omega⟩
    have ih := run_places fs h.2 w
    rw [List.mapM_cons]
    simp only [Sem.run_bind, Sem.run_pure, Result.andThen_ok, run_sizeOf hn]
    rw [ih]
    simp [hn]
theorem DP.bdS {ps : List (Nat × Operand)} {vs : List (Nat × Value)} {t : TypeId} {pl : List (Nat × Nat)} {z : Value} {cs : Array Value} (hv : (ps.toArray.map fun (i, x) => (i, E.eval x)) = vs.toArray) (hp : placesOf P t = some pl) (hz : P.zeroOf t = some z)
    (hf : Instr.fill (fun i => pl[i]?) z.cells vs = some cs) : DP P E ⟨d, .build t ps.toArray, ty, pos, af, g⟩ (.agg cs) :=
  ⟨fun _ => by simp, fun w => by
    unfold placesOf at hp
    cases ht : P.underlying t with
    | none => simp [ht] at hp
    | some ds =>
      cases ds with
      | struct fs =>
        simp only [ht] at hp
        split at hp
        · rename_i hall
          simp only [Option.some.injEq] at hp
          subst hp
          have h2 := run_places (P := P) fs.toList hall w
          have h3 : (fs.mapM (fun f => do pure (f.offset, ← Go.sizeOf f.type) : Field → Sem (Nat × Nat))).run P w = .ok (fs.toList.map fun f => (f.offset, P.cellsOf f.type)).toArray w := by
            have e : fs = fs.toList.toArray := by simp
            rw [e, List.mapM_toArray, Sem.run_map]
            simp only at h2 ⊢
            rw [h2]; rfl
          simp only [execOp, hv, Instr.build]
          simp only [Sem.run_bind, run_zeroValue hz, Result.andThen_ok, run_underlying ht]
          rw [h3]
          simp only [Result.andThen_ok, List.getElem?_toArray]
          rw [hf]
          simp
        · cases hp
      | _ => simp [ht] at hp⟩
theorem DP.bdA {ps : List (Nat × Operand)} {vs : List (Nat × Value)} {t e : TypeId} {n len : Nat} {z : Value} {cs : Array Value} (hv : (ps.toArray.map fun (i, x) => (i, E.eval x)) = vs.toArray) (ht : P.underlying t = some (.array len e)) (hs : P.cellsOf e = n + 1) (hz : P.zeroOf t = some z)
    (hf : Instr.fill (fun i => some (i * (n + 1), n + 1)) z.cells vs = some cs) : DP P E ⟨d, .build t ps.toArray, ty, pos, af, g⟩ (.agg cs) :=
  ⟨fun _ => by simp, fun w => by
    simp only [execOp, hv, Instr.build]
    simp only [Sem.run_bind, run_zeroValue hz, Result.andThen_ok, run_underlying ht, run_sizeOf hs]
    rw [hf]
    simp⟩
end
end Pw
namespace Pw
open Go
section
variable {P : Program} {r : Rd} {c : Ctx} {L : List Assn} {Q : Exit → Env → Rd → World → Prop} {E : Env}
theorem SLh.drop_left {L R : List Assn} : ∀ {f : Frag}, SLh (L ++ R) f → SLh R f := by
  induction L with
  | nil => exact fun h => h
  | cons A L ih => exact fun h => ih h.tail
/-- A thing that is made of things. -/
theorem SLh.flat : ∀ {Ls R : List Assn} {f f1 f2 : Frag}, (∀ b, f1 b = none ∨ f2 b = none) → (∀ b o, f1 b = some o → f b = some o) → (∀ b o, f2 b = some o → f b = some o) → SLh Ls f1 → SLh R f2 → SLh (Ls ++ R) f
  | [], R, f, f1, f2, _, _, h2, _, hr => hr.mono h2
  | A :: Ls, R, f, f1, f2, hd, h1, h2, ⟨g1, g2, hg, k1, k2, ha, hl⟩, hr => by
    refine ⟨g1, fun b => if (g1 b).isSome then none else f b, ?_, fun b o e => h1 b o (k1 b o e), ?_, ha, SLh.flat (f1 := g2) (f2 := f2) ?_ ?_ ?_ hl hr⟩
    · intro b
      cases hb : g1 b with
      | none => left; rfl
      | some o => right; simp [hb]
    · intro b o e
      dsimp only at e
      split at e
      · cases e
      · exact e
    · intro b
      rcases hd b with h | h
      · left
        cases hb : g2 b with
        | none => rfl
        | some o => rw [k2 b o hb] at h; cases h
      · exact .inr h
    · intro b o e
      have : g1 b = none := by
        rcases hg b with h | h
        · exact h
        · rw [e] at h; cases h
      simp [this, h1 b o (k2 b o e)]
    · intro b o e
      have : g1 b = none := by
        rcases hd b with h | h
        · cases hb : g1 b with
          | none => rfl
          | some o' => rw [k1 b o' hb] at h; cases h
        · rw [e] at h; cases h
      simp [this, h2 b o e]
theorem SLh.shut : ∀ {Ls R : List Assn} {f : Frag}, SLh (Ls ++ R) f → ∃ f1 f2 : Frag, (∀ b, f1 b = none ∨ f2 b = none) ∧ (∀ b o, f1 b = some o → f b = some o) ∧ (∀ b o, f2 b = some o → f b = some o) ∧ SLh Ls f1 ∧ SLh R f2
  | [], R, f, h => ⟨fun _ => none, f, fun _ => .inl rfl, fun _ _ e => by simp at e, fun _ _ e => e, trivial, h⟩
  | A :: Ls, R, f, ⟨g1, g2, hg, k1, k2, ha, hl⟩ => by
    obtain ⟨f1, f2, hd, h1, h2, hls, hr⟩ := SLh.shut hl
    refine ⟨fun b => match g1 b with | some o => some o | none => f1 b, f2, ?_, ?_, fun b o e => k2 b o (h2 b o e), ⟨g1, f1, ?_, ?_, ?_, ha, hls⟩, hr⟩
    · intro b
      rcases hd b with h | h
      · cases hb : g1 b with
        | none => left; simp [hb, h]
        | some o =>
          right
          cases hb2 : f2 b with
          | none => rfl
          | some o' =>
            rcases hg b with h' | h'
            · rw [hb] at h'; cases h'
            · rw [h2 b o' hb2] at h'; cases h'
      · exact .inr h
    · intro b o e
      dsimp only at e
      split at e
      · rename_i o' hb
        simp at e; subst e
        exact k1 b _ hb
      · exact k2 b o (h1 b o e)
    · intro b
      rcases hg b with h | h
      · exact .inl h
      · right
        cases hb : f1 b with
        | none => rfl
        | some o => rw [h1 b o hb] at h; cases h
    · intro b o e; simp [e]
    · intro b o e
      have : g1 b = none := by
        rcases hg b with h | h
        · exact h
        · rw [h1 b o e] at h; cases h
      simp [this, e]

theorem SL.open {X : Assn} {R : List Assn} {w : World} {α : Type} {Ls : α → List Assn} (hX : ∀ f, X f → ∃ a, SLh (Ls a) f) (h : SL c (X :: R) w) : ∃ a, SL c (Ls a ++ R) w := by
  obtain ⟨e1, e2, e3, f1, f2, hd, h1, h2, hx, hr⟩ := h
  obtain ⟨a, ha⟩ := hX f1 hx
  exact ⟨a, e1, e2, e3, SLh.flat hd h1 h2 ha hr⟩
theorem SL.shut {X : Assn} {R Ls : List Assn} {w : World} (hX : ∀ f, SLh Ls f → X f) (h : SL c (Ls ++ R) w) : SL c (X :: R) w := by
  obtain ⟨e1, e2, e3, h⟩ := h
  obtain ⟨f1, f2, hd, h1, h2, hl, hr⟩ := SLh.shut h
  exact ⟨e1, e2, e3, f1, f2, hd, h1, h2, hX f1 hl, hr⟩
theorem Ent.shut {X : Assn} {R Ls : List Assn} (hX : ∀ f, SLh Ls f → X f) : Ent c (Ls ++ R) (X :: R) := fun _ h => h.shut hX
theorem T.open {X : Assn} {R : List Assn} {code : Code} {α : Type} {Ls : α → List Assn} (hd : Del X L R) (hX : ∀ f, X f → ∃ a, SLh (Ls a) f) (k : ∀ a, T P r c (Ls a ++ R) code Q E) : T P r c L code Q E := fun w hw => by
  obtain ⟨a, ha⟩ := (hw.perm hd.perm).open hX
  exact k a w ha
theorem TO.open {X : Assn} {R : List Assn} {ops : Array Oper} {l : List Oper} {α : Type} {Ls : α → List Assn} (hd : Del X L R) (hX : ∀ f, X f → ∃ a, SLh (Ls a) f) (k : ∀ a, TO P r c (Ls a ++ R) ops Q l E) : TO P r c L ops Q l E := fun w hw => by
  obtain ⟨a, ha⟩ := (hw.perm hd.perm).open hX
  exact k a w ha
/-- What a thing says besides. -/
theorem SL.pure {X : Assn} {w : World} {p : Prop} (h : SL c L w) (hm : LMem X L) (hX : ∀ f, X f → p) : p := by
  obtain ⟨f1, h1, _⟩ := SLh.mem hm h.2.2.2
  exact hX f1 h1
/-- The same, held so: for a contract. -/
theorem Sat.open {f : FuncId} {args : List Value} {X : Assn} {R : List Assn} {B : Value → List Assn → Prop} {α : Type} {Ls : α → List Assn} (hX : ∀ f, X f → ∃ a, SLh (Ls a) f) (k : ∀ a, Sat P f args (Ls a ++ R) B) : Sat P f args (X :: R) B := fun c R' w hw => by
  obtain ⟨a, ha⟩ := SL.open (R := R ++ R') hX hw
  exact k a c R' w (by simpa using ha)
theorem Sat.pure {f : FuncId} {args : List Value} {A : List Assn} {B : Value → List Assn → Prop} {X : Assn} {p : Prop} (hm : LMem X A) (hX : ∀ f, X f → p) (k : p → Sat P f args A B) : Sat P f args A B := fun c R' w hw =>
  k (by
    obtain ⟨f1, h1, _⟩ := SLh.mem hm (SLh.append_left hw.2.2.2)
    exact hX f1 h1) c R' w hw
/-- More may be held. -/
theorem Sat.frame {f : FuncId} {args : List Value} {A F : List Assn} {B : Value → List Assn → Prop} (h : Sat P f args A B) : Sat P f args (A ++ F) (fun v L' => ∃ L1, B v L1 ∧ L' = L1 ++ F) := fun c R w hw => by
  refine CallsIn.mono (h c (F ++ R) w (by simpa using hw)) ?_
  rintro e w' ⟨v, L', he, hb, hw'⟩
  exact ⟨v, _, he, ⟨L', hb, rfl⟩, by simpa using hw'⟩
theorem Sat.ent {f : FuncId} {args : List Value} {A A' : List Assn} {B : Value → List Assn → Prop} (hA : ∀ c R, Ent c (A ++ R) (A' ++ R)) (h : Sat P f args A' B) : Sat P f args A B := fun c R w hw => h c R w (hA c R w hw)
end
end Pw
namespace Pw
open Go
section
variable {P : Program} {r : Rd} {c : Ctx} {L : List Assn} {E : Env} {d : Option Tmp} {ty : TypeId} {pos : String} {af : Array Edge} {g : Option (Nat × Bool)}
theorem cells_one {v : Value} (hv : v.oneCell' = true) : v.cells = #[v] := by cases v <;> first | rfl | (simp [Value.oneCell'] at hv)
theorem N.bxA {t : TypeId} {x : Operand} {cs : List Value} (hx : E.eval x = .agg cs.toArray) : N P r c L E ⟨d, .box t x, ty, pos, af, g⟩ (fun v L' => ∃ b, v = .pointer (some ⟨b, 0, none⟩) ∧ L' = row t b cs :: L) := N.bx hx rfl
theorem N.bx1 {t : TypeId} {x : Operand} {v : Value} (hx : E.eval x = v) (hv : v.oneCell' = true) : N P r c L E ⟨d, .box t x, ty, pos, af, g⟩ (fun u L' => ∃ b, u = .pointer (some ⟨b, 0, none⟩) ∧ L' = row t b [v] :: L) := N.bx hx (cells_one hv)
theorem N.alA {t : TypeId} {cs : List Value} (hz : P.zeroOf t = some (.agg cs.toArray)) : N P r c L E ⟨d, .alloc t, ty, pos, af, g⟩ (fun v L' => ∃ b, v = .pointer (some ⟨b, 0, none⟩) ∧ L' = row t b cs :: L) := N.al hz rfl
theorem N.al1 {t : TypeId} {z : Value} (hz : P.zeroOf t = some z) (hv : z.oneCell' = true) : N P r c L E ⟨d, .alloc t, ty, pos, af, g⟩ (fun v L' => ∃ b, v = .pointer (some ⟨b, 0, none⟩) ∧ L' = row t b [z] :: L) := N.al hz (cells_one hv)
/-- Loads off a row. -/
theorem D.ldR {x : Operand} {b o : Nat} {v : Value} {t e : TypeId} {cs : List Value} (hx : E.eval x = .pointer (some ⟨b, o, none⟩)) (ht : plainT P t = true) (hm : LMem (row e b cs) L) (hv : cs[o]? = some v) : D P c L E ⟨d, .load t x, ty, pos, af, g⟩ v := D.ld hx ht hm (Reads.row hv)
theorem D.ldRA {x : Operand} {b : Nat} {t e : TypeId} {n : Nat} {cs : List Value} (hx : E.eval x = .pointer (some ⟨b, 0, none⟩)) (ht : aggT P t = true) (hi : P.cellsOf t = n + 1) (hm : LMem (row e b cs) L) (hn : cs.length = n + 1) : D P c L E ⟨d, .load t x, ty, pos, af, g⟩ (.agg cs.toArray) := D.ldA hx ht hi hm ReadsN.rowAll hn
/-- .. a struct in the midst of a row -/
theorem D.ldRM {x : Operand} {b o : Nat} {t e : TypeId} {n : Nat} {cs vs : List Value} (hx : E.eval x = .pointer (some ⟨b, o, none⟩)) (ht : aggT P t = true) (hi : P.cellsOf t = n + 1) (hm : LMem (row e b cs) L) (hv : ∀ i v, vs[i]? = some v → cs[o + i]? = some v) (hn : vs.length = n + 1) : D P c L E ⟨d, .load t x, ty, pos, af, g⟩ (.agg vs.toArray) := D.ldA hx ht hi hm (ReadsN.row hv) hn
end
end Pw
namespace Pw
open Go
section
variable {P : Program} {r : Rd} {c : Ctx} {L : List Assn} {E : Env} {d : Option Tmp} {ty : TypeId} {pos : String} {af : Array Edge} {g : Option (Nat × Bool)}

/-- append where there is room, onto whatever lies in a row. -/
theorem N.appIn {x y : Operand} {b o n cap m sz : Nat} {t xt e et : TypeId} {xv : Value} {cs news : List Value} {L' : List Assn} (hx : E.eval x = .slice (some ⟨b, o, none⟩) n cap) (hy : E.eval y = xv) (ht : P.underlying t = some (.slice e)) (hsz : P.cellsOf e = sz + 1)
    (hs : Src P c L (sz + 1) xt xv m news) (h1 : ∀ u ∈ news, u.oneCell' = true) (hroom : n + m ≤ cap) (hp : Put (row et b cs) L (row et b (setAll cs (o + n * (sz + 1)) news)) L') (ho : o + n * (sz + 1) + news.length ≤ cs.length) :
    N P r c L E ⟨d, .call ⟨.builtin .append, #[x, y], #[t, xt]⟩, ty, pos, af, g⟩ (fun v L'' => v = .slice (some ⟨b, o, none⟩) (n + m) cap ∧ L'' = L') := by
  refine N.value (fun _ => by simp) fun w hw => ?_
  obtain ⟨R, h1p, h2p⟩ := hp.del
  obtain ⟨w', k1, k2⟩ := SL.storeCells (P := P) news cs (o + n * (sz + 1)) 0 w R (hw.perm h1p) h1 (by omega)
  refine ⟨.slice (some ⟨b, o, none⟩) (n + m) cap, _, w', ?_, ⟨rfl, rfl⟩, k2.perm (by simpa using h2p.symm)⟩
  have hrun : (execOp E.eval ⟨d, .call ⟨.builtin .append, #[x, y], #[t, xt]⟩, ty, pos, af, g⟩).run P w = ((Builtin.append_ #[t, xt] ty #[.slice (some ⟨b, o, none⟩) n cap, xv]).run P w).andThen (fun a w' => Result.ok (Next.value a) w') := by
    simp [execOp, resolve, invoke, builtin, hx, hy]
  rw [hrun]
  obtain ⟨ds, hds, hnk⟩ := hs.ty
  have hfirst : ∀ w, SL c L w → (Builtin.firstCells (sz + 1) m xv).run P w = .ok news.toArray w := fun w hw => by
    rw [hs.first w hw m (Nat.le_refl _), List.take_of_length_le (by rw [hs.size]; exact Nat.le_refl _)]
  have hzeros : (match (some ds : Option TypeDesc) with | some (.int _) => true | _ => false) = false := by cases ds <;> first | rfl | exact absurd rfl (hnk _)
  simp only [Builtin.append_, List.getElem?_toArray, List.getElem?_cons_zero, List.getElem?_cons_succ]
  have hzeros' : (ds matches .int _) = false := by cases ds <;> first | rfl | exact absurd rfl (hnk _)
  simp only [Sem.run_bind, Sem.run_pure, Result.andThen_ok, run_underlying ht, run_underlying hds, run_sizeOf hsz, hzeros', Bool.false_eq_true, if_false, hs.len, hfirst w hw, hroom, Bool.not_false, if_true]
  rw [Addr.add_lit]
  simp [k1]

theorem flatten_rep_length (z : List Value) (n : Nat) : ((List.replicate n z).flatten).length = n * z.length := by
  induction n with
  | zero => simp
  | succ n ih => rw [List.replicate_succ, List.flatten_cons, List.length_append, ih, Nat.succ_mul, Nat.add_comm]

theorem zeroCells_rep (z : List Value) (hz : 0 < z.length) (n : Nat) : Builtin.zeroCells z.toArray n = ((List.replicate n z).flatten).toArray := by
  rw [← made_list z hz n]; simp [Builtin.zeroCells]

/-- append(s, make([]T, m)...) where there is no room: a new array. -/
theorem N.appZ {x y : Operand} {b o n cap m sz : Nat} {t xt e : TypeId} {kx k' : IntKind} {z : Value} {zs pre : List Value} {A : Assn} {by_ : Nat} (hx : E.eval x = .slice (some ⟨b, o, none⟩) n cap) (hy : E.eval y = .int k' m) (ht : P.underlying t = some (.slice e)) (hxt : P.underlying xt = some (.int kx)) (hsz : P.cellsOf e = sz + 1) (hb : P.bytesOf e = by_)
    (hz : P.zeroOf e = some z) (hzc : z.cells = zs.toArray) (hzl : zs.length = sz + 1) (hm : LMem A L) (hr : ReadsN A b o pre) (hpl : pre.length = n * (sz + 1)) (hm0 : 0 < m) (hroom : cap < n + m) (hlim : (n + m) * (by_ + 1) ≤ 140737488355328) :
    N P r c L E ⟨d, .call ⟨.builtin .append, #[x, y], #[t, xt]⟩, ty, pos, af, g⟩ (fun v L' => ∃ nb k rest, v = .slice (some ⟨nb, 0, none⟩) (n + m) (n + m + k) ∧ rest.length = k * (sz + 1) ∧ L' = row e nb (pre ++ (List.replicate m zs).flatten ++ rest) :: L) := by
  refine N.value (fun _ => by simp) fun w hw => ?_
  have hrun : (execOp E.eval ⟨d, .call ⟨.builtin .append, #[x, y], #[t, xt]⟩, ty, pos, af, g⟩).run P w = ((Builtin.append_ #[t, xt] ty #[.slice (some ⟨b, o, none⟩) n cap, .int k' m]).run P w).andThen (fun a w' => Result.ok (Next.value a) w') := by
    simp [execOp, resolve, invoke, builtin, hx, hy]
  rw [hrun]
  obtain ⟨i, hi, hie⟩ : ∃ i, P.info? e = some i ∧ i.bytes = by_ := by
    unfold Program.cellsOf at hsz
    cases hi : P.info? e with
    | none => simp [hi] at hsz
    | some i => exact ⟨i, rfl, by unfold Program.bytesOf at hb; simpa [hi] using hb⟩
  have hti : ∀ w, (typeInfo e).run P w = .ok i w := fun w => by simp [typeInfo, hi]
  have hnm : n + m ≤ 140737488355328 := Nat.le_trans (Nat.le_mul_of_pos_right _ (by omega)) hlim
  have hbm : (n + m) * by_ ≤ 140737488355328 := Nat.le_trans (Nat.mul_le_mul_left _ (by omega)) hlim
  have hmb : m * by_ ≤ 140737488355328 := Nat.le_trans (Nat.mul_le_mul_right _ (by omega)) hbm
  have hmbi : (m : Int) * (by_ : Int) ≤ 140737488355328 := by rw [← Int.natCast_mul]; omega
  have hw64 : IntKind.i64.wrap (m : Int) = m := wrap_nat (by simp [IntKind.lim, IntKind.signed, IntKind.bits]; omega)
  obtain ⟨nc, hcap⟩ : ∃ nc, (Question.appendCap (n + m) cap e).cut (w.tape w.drawn (.appendCap (n + m) cap e)) = nc := ⟨_, rfl⟩
  have hge : n + m ≤ nc := by rw [← hcap]; simp [Question.cut]
  have hk48 : ¬ (Builtin.nextslicecap (n + m) cap * i.bytes > 2 ^ 48) := by
    have := growslice_fits (need := n + m) (old := cap) (bytes := i.bytes) hroom (by rw [hie]; exact hbm)
    omega
  have hold : ∀ w', SL c L w' → (Go.loadCells ⟨b, o, none⟩ (n * (sz + 1))).run P w' = .ok pre.toArray w' := fun w' hw' => by
    have h := run_loadCells' (P := P) (w := w') (b := b) (o := o) (vs := pre) (fun i v hv => hw'.reads hm (hr i v hv))
    rw [hpl] at h; exact h
  have hzp : 0 < zs.length := by omega
  have hfr := SL.toRow (e := e) (fun o _ => notIn.zero o) ((hw.drew).alloc (.cells (pre ++ (List.replicate m zs).flatten ++ (List.replicate (nc - (n + m)) zs).flatten).toArray e (0, 0)))
  refine ⟨.slice (some ⟨w.heap.size, 0, none⟩) (n + m) nc, _, ({ w with drawn := w.drawn + 1 } : World).alloc (.cells (pre ++ (List.replicate m zs).flatten ++ (List.replicate (nc - (n + m)) zs).flatten).toArray e (0, 0)), ?_, ⟨w.heap.size, nc - (n + m), (List.replicate (nc - (n + m)) zs).flatten, by congr 1; omega, by rw [flatten_rep_length, hzl], rfl⟩, hfr⟩
  have hn1 : ¬ (n + m ≤ cap) := by omega
  have hneg : ¬ ((m : Int) < 0) := by omega
  have h48a : ¬ ((m : Int) * (i.bytes : Int) > 2 ^ 48) := by rw [hie]; omega
  have hns : ¬ (m * (sz + 1) = 0) := fun h => by rcases Nat.mul_eq_zero.1 h with h | h <;> omega
  have hmax : ¬ (((n + m : Nat) : Int) > IntKind.i64.max ∧ (true = true ∨ i.bytes = 0)) := by
    intro h; have := h.1; simp at this; omega
  simp only [Builtin.append_, List.getElem?_toArray, List.getElem?_cons_zero, List.getElem?_cons_succ]
  simp only [Sem.run_bind, Sem.run_pure, Result.andThen_ok, run_underlying ht, run_underlying hxt, run_sizeOf hsz, if_true, asInt, run_asIntOf, hw64, Sem.run_ite, hneg, if_false, hti, h48a, Int.toNat_natCast, hn1, hmax, hk48, run_choose, Question.forced, Bool.false_eq_true, hcap, run_askRoom]
  simp only [Builtin.firstCells, hold { w with drawn := w.drawn + 1 } hw.drew, Result.andThen_ok, Bool.not_true, Bool.false_eq_true, if_false, hns, Sem.run_bind, Sem.run_ite, run_zeroValue hz, Sem.run_pure, hzc, zeroCells_rep zs hzp, newRow, run_newObj]
  simp
  rw [if_neg (by omega)]
  rfl

/-- clear, of a slice in a row. -/
theorem N.clr {x : Operand} {b o n cap sz : Nat} {t e et : TypeId} {z : Value} {zs cs : List Value} {L' : List Assn} (hx : E.eval x = .slice (some ⟨b, o, none⟩) (n + 1) cap) (ht : P.underlying t = some (.slice e)) (hz : P.zeroOf e = some z) (hzc : z.cells = zs.toArray) (hzl : zs.length = sz + 1) (h1 : ∀ u ∈ zs, u.oneCell' = true)
    (hp : Put (row et b cs) L (row et b (setAll cs o (List.replicate (n + 1) zs).flatten)) L') (ho : o + (n + 1) * (sz + 1) ≤ cs.length) :
    N P r c L E ⟨d, .call ⟨.builtin .clear, #[x], #[t]⟩, ty, pos, af, g⟩ (fun v L'' => v = .tuple #[] ∧ L'' = L') := by
  refine N.value (fun _ => by simp) fun w hw => ?_
  obtain ⟨R, h1p, h2p⟩ := hp.del
  have hone : ∀ u ∈ (List.replicate (n + 1) zs).flatten, u.oneCell' = true := fun u hu => by
    obtain ⟨l, hl, hul⟩ := List.mem_flatten.1 hu
    rw [List.eq_of_mem_replicate hl] at hul
    exact h1 u hul
  obtain ⟨w', k1, k2⟩ := SL.storeCells (P := P) (List.replicate (n + 1) zs).flatten cs o 0 w R (hw.perm h1p) hone (by rw [flatten_rep_length, hzl]; omega)
  refine ⟨.tuple #[], _, w', ?_, ⟨rfl, rfl⟩, k2.perm (by simpa using h2p.symm)⟩
  have hrun : (execOp E.eval ⟨d, .call ⟨.builtin .clear, #[x], #[t]⟩, ty, pos, af, g⟩).run P w = ((Builtin.clear_ #[t] ty #[.slice (some ⟨b, o, none⟩) (n + 1) cap]).run P w).andThen (fun a w' => Result.ok (Next.value a) w') := by
    simp [execOp, resolve, invoke, builtin, hx]
  rw [hrun]
  simp only [Builtin.clear_, List.getElem?_toArray, List.getElem?_cons_zero]
  simp only [Sem.run_bind, run_underlying ht, Result.andThen_ok, run_zeroValue hz, hzc, zeroCells_rep zs (by omega)]
  simp [k1]
/-- clear, of an empty slice. -/
theorem N.clr0 {x : Operand} {a : Option Addr} {cap : Nat} {t e : TypeId} (hx : E.eval x = .slice a 0 cap) (ht : P.underlying t = some (.slice e)) :
    N P r c L E ⟨d, .call ⟨.builtin .clear, #[x], #[t]⟩, ty, pos, af, g⟩ (fun v L'' => v = .tuple #[] ∧ L'' = L) := by
  refine N.value (fun _ => by simp) fun w hw => ⟨.tuple #[], _, w, ?_, ⟨rfl, rfl⟩, hw⟩
  have hrun : (execOp E.eval ⟨d, .call ⟨.builtin .clear, #[x], #[t]⟩, ty, pos, af, g⟩).run P w = ((Builtin.clear_ #[t] ty #[.slice a 0 cap]).run P w).andThen (fun a w' => Result.ok (Next.value a) w') := by
    simp [execOp, resolve, invoke, builtin, hx]
  rw [hrun]
  cases a <;> simp [Builtin.clear_, run_underlying ht]

/-- []T{..}: any. -/
theorem N.bs {ps : List (Nat × Operand)} {vs : List (Nat × Value)} {z : Value} {t e : TypeId} {len n : Nat} {zs : List Value} {cs : Array Value} (hv : (ps.toArray.map fun (i, x) => (i, E.eval x)) = vs.toArray) (ht : P.underlying t = some (.slice e)) (hsz : P.cellsOf e = n + 1) (hz : P.zeroOf e = some z) (hzc : z.cells = zs.toArray) (hzl : zs.length = n + 1) (hlim : len * (n + 1) ≤ 16777216)
    (hf : Instr.fill (fun i => some (i * (n + 1), n + 1)) (List.replicate len zs).flatten.toArray vs = some cs) :
    N P r c L E ⟨d, .buildSlice t len ps.toArray, ty, pos, af, g⟩ (fun u L' => ∃ b, u = .slice (some ⟨b, 0, none⟩) len len ∧ L' = pt b (.cells cs e (0, 0)) :: L) := by
  refine N.value (fun _ => by simp) fun w hw => ?_
  refine ⟨.slice (some ⟨w.heap.size, 0, none⟩) len len, _, w.alloc (.cells cs e (0, 0)), ?_, ⟨w.heap.size, rfl, rfl⟩, hw.alloc _⟩
  have hlim' : ¬ (len * (n + 1) > 2 ^ 24) := by omega
  have hml := made_list zs (by omega) len
  rw [hzl] at hml
  by_cases h0 : len * (n + 1) = 0
  · have hl0 : len = 0 := by rcases Nat.mul_eq_zero.1 h0 with h | h <;> omega
    subst hl0
    simp only [List.replicate_zero, List.flatten_nil] at hf
    simp only [execOp, Instr.buildSlice, hv]
    simp only [Sem.run_bind, run_underlying ht, Result.andThen_ok, run_sizeOf hsz, Sem.run_ite, hlim', if_false, Nat.zero_mul, if_true, Sem.run_pure]
    simp only [Array.range_zero', List.map_toArray]
    simp [hf, newRow]
  · simp only [execOp, Instr.buildSlice, hv]
    simp only [Sem.run_bind, run_underlying ht, Result.andThen_ok, run_sizeOf hsz, Sem.run_ite, hlim', if_false, h0, run_zeroValue hz, Sem.run_pure, hzc]
    rw [hml]
    simp [hf, newRow]

/-- A slice against nil. -/
theorem run_eqSliceNil {t e : TypeId} (a : Option Addr) (n k0 n' k' : Nat) (ht : P.underlying t = some (.slice e)) (w : World) : (Op.equal t (.slice a n k0) (.slice none n' k')).run P w = .ok a.isNone w := by
  have h : ∀ k, (Op.equalIn (k + 1) t (.slice a n k0) (.slice none n' k')).run P w = .ok a.isNone w := fun k => by cases a <;> simp [Op.equalIn, run_underlying ht]
  exact h 9999

/-- nil, resliced by nought. -/
theorem DP.slSl0 {x y : Operand} {t e : TypeId} {k : IntKind} {n : Nat} (hx : E.eval x = .slice none 0 0) (hy : E.eval y = .int k (0 : Nat)) (ht : P.underlying t = some (.slice e)) (hs : P.cellsOf e = n + 1) :
    DP P E ⟨d, .slice t x (some y) none none, ty, pos, af, g⟩ (.slice none 0 0) :=
  ⟨fun _ => by simp, fun w => by
    have hb : (Instr.sliceBounds true 0 0 (some (.int k 0)) none none).run P w = .ok (0, 0, 0) w := run_slice3l true 0 0 0 k (Nat.le_refl 0) w
    simp [execOp, hx, hy, Instr.sliceAt, Instr.slice, run_underlying ht, hb, run_sizeOf hs]⟩
theorem DP.slSh0 {x y : Operand} {t e : TypeId} {k : IntKind} {n : Nat} (hx : E.eval x = .slice none 0 0) (hy : E.eval y = .int k (0 : Nat)) (ht : P.underlying t = some (.slice e)) (hs : P.cellsOf e = n + 1) :
    DP P E ⟨d, .slice t x none (some y) none, ty, pos, af, g⟩ (.slice none 0 0) :=
  ⟨fun _ => by simp, fun w => by
    have hb : (Instr.sliceBounds true 0 0 none (some (.int k 0)) none).run P w = .ok (0, 0, 0) w := run_slice3h true 0 0 0 k (Nat.le_refl 0) w
    simp [execOp, hx, hy, Instr.sliceAt, Instr.slice, run_underlying ht, hb, run_sizeOf hs]⟩

/-- s == nil. -/
theorem DP.seqN {x y : Operand} {a : Option Addr} {n k n' k' : Nat} {t t' e : TypeId} (hx : E.eval x = .slice a n k) (hy : E.eval y = .slice none n' k') (ht : P.underlying t = some (.slice e)) : DP P E ⟨d, .binOp .eql t x y t', ty, pos, af, g⟩ (.bool a.isNone) :=
  ⟨fun _ => by simp, fun w => by
    have h := run_eqSliceNil (P := P) a n k n' k' ht w
    simp only [execOp, hx, hy, eqGuard_at_slice, binOp, Sem.run_bind, Sem.run_pure, Result.andThen_ok, h]⟩
theorem DP.sneN {x y : Operand} {a : Option Addr} {n k n' k' : Nat} {t t' e : TypeId} (hx : E.eval x = .slice a n k) (hy : E.eval y = .slice none n' k') (ht : P.underlying t = some (.slice e)) : DP P E ⟨d, .binOp .neq t x y t', ty, pos, af, g⟩ (.bool (!a.isNone)) :=
  ⟨fun _ => by simp, fun w => by
    have h := run_eqSliceNil (P := P) a n k n' k' ht w
    simp only [execOp, hx, hy, eqGuard_at_slice, binOp, Sem.run_bind, Sem.run_pure, Result.andThen_ok, h]⟩

/-- Two structs of numbers. -/
theorem run_eqInt {t : TypeId} {k : IntKind} (n : Nat) (a b : Int) (ht : P.underlying t = some (.int k)) (w : World) : (Op.equalIn (n + 1) t (.int k a) (.int k b)).run P w = .ok (a == b) w := by
  simp [Op.equalIn, run_underlying ht]
theorem run_part1 {t : TypeId} {xs : Array Value} {o : Nat} {v : Value} (hp : plainT P t = true) (hs : P.cellsOf t = 0 + 1) (hv : xs[o]? = some v) (w : World) : (Go.part t xs o).run P w = .ok v w := by
  have := run_isAgg_plain hp w
  simp [Go.part, run_sizeOf hs, this, hv]
theorem DP.aeql2 {x y : Operand} {f0 f1 : Field} {k0 k1 : IntKind} {a b a' b' : Int} {t t' : TypeId} (hx : E.eval x = .agg #[.int k0 a, .int k1 b]) (hy : E.eval y = .agg #[.int k0 a', .int k1 b']) (ht : P.underlying t = some (.struct #[f0, f1]))
    (hg : P.eqGuardType P.depth t = false) (hs : P.stoodInHeld t = false) (hn0 : f0.name ≠ "_") (hn1 : f1.name ≠ "_") (ho0 : f0.offset = 0) (ho1 : f1.offset = 1) (h0 : P.underlying f0.type = some (.int k0)) (h1 : P.underlying f1.type = some (.int k1)) (hc0 : P.cellsOf f0.type = 0 + 1) (hc1 : P.cellsOf f1.type = 0 + 1) :
    DP P E ⟨d, .binOp .eql t x y t', ty, pos, af, g⟩ (.bool (decide (a = a' ∧ b = b'))) :=
  ⟨fun _ => by simp, fun w => by
    have hp0 : plainT P f0.type = true := by simp [plainT, h0]
    have hp1 : plainT P f1.type = true := by simp [plainT, h1]
    have h : (Op.equalIn (9998 + 1 + 1) t (.agg #[.int k0 a, .int k1 b]) (.agg #[.int k0 a', .int k1 b'])).run P w = .ok (decide (a = a' ∧ b = b')) w := by
      rw [Op.equalIn]
      simp [run_underlying ht, hs, hn0, hn1, ho0, ho1, fun v u => run_part1 (xs := #[v, u]) (o := 0) (v := v) hp0 hc0 rfl, fun v u => run_part1 (xs := #[v, u]) (o := 1) (v := u) hp1 hc1 rfl, run_eqInt _ _ _ h0, run_eqInt _ _ _ h1]
      by_cases e1 : a = a' <;> by_cases e2 : b = b' <;> simp [e1, e2]
    simp only [execOp, hx, hy, eqGuard, binOp, Sem.run_bind, Sem.run_pure]
    rw [show Op.equal t (.agg #[.int k0 a, .int k1 b]) (.agg #[.int k0 a', .int k1 b']) = Op.equalIn (9998 + 1 + 1) t (.agg #[.int k0 a, .int k1 b]) (.agg #[.int k0 a', .int k1 b']) from rfl]
    simp [hg, h]⟩

theorem SL.apart {b b' : Nat} {o : Obj} {e : TypeId} {cs : List Value} {R : List Assn} {w : World} (h : SL c (pt b o :: Pw.row e b' cs :: R) w) : b ≠ b' := by
  intro hb; subst hb
  obtain ⟨_, _, _, f1, f2, hd, h1, h2, hA, g1, g2, hd2, hg1, hg2, ⟨fr, hf1, hf2⟩, hB⟩ := h
  rcases hd b with h | h
  · rw [hA] at h; cases h
  · have := hg1 _ _ hf2; rw [h] at this; cases this

/-- slices.overlaps, of two blocks. -/
theorem D.ovl {x y : Operand} {f : FuncId} {fn : Func} {tS tR e et eb : TypeId} {ats : Array TypeId} {sz b o n k b' o' n' k' : Nat} {cs : Array Value} {cs' : List Value} {R : List Assn} (hx : E.eval x = .slice (some ⟨b, o, none⟩) n k) (hy : E.eval y = .slice (some ⟨b', o', none⟩) n' k')
    (hf : P.funcs[f]? = some fn) (hname : (fn.name == "runtime.NumGoroutine") = false) (hb : fn.body.isNone = true) (hn : Extern.findNext fn = none) (he : Extern.find fn = some (Extern.SlicesOverlaps.overlaps #[tS, tS] #[tR]))
    (ht : P.underlying tS = some (.slice e)) (hsz : P.cellsOf e = sz + 1) (hm : Pick [pt b (.cells cs et (0, 0)), Pw.row eb b' cs'] L R) (hne : cs' ≠ []) :
    D P c L E ⟨d, .call ⟨.value (.func f), #[x, y], ats⟩, ty, pos, af, g⟩ (.bool false) := by
  refine ⟨fun _ => by simp, fun w hw => ?_⟩
  have hrun : (execOp E.eval ⟨d, .call ⟨.value (.func f), #[x, y], ats⟩, ty, pos, af, g⟩).run P w = (callFunc f #[.slice (some ⟨b, o, none⟩) n k, .slice (some ⟨b', o', none⟩) n' k']).run P w := by
    have h0 : E.eval (.func f) = .func (.func f) #[] #[] := rfl
    simp [execOp, resolve, Deferred.ofValue, invoke, h0, hx, hy]
  rw [hrun, run_callFunc_extern hf hname hb hn he]
  have hw' := hw.perm hm.perm
  have hbb := SL.apart hw'
  obtain ⟨fr, hfr, hw2⟩ := (hw'.perm (List.Perm.swap _ _ _)).row
  have hb1 := hw'.heap (.head _ _)
  have hb2 := hw2.heap (.head _ _)
  rw [Lib.run_overlaps_apart w tS tR e ht (sz + 1) (fun w => run_sizeOf hsz w) ⟨b, o, none⟩ ⟨b', o', none⟩ n k n' k' hbb et eb cs.size cs'.length (by simp [World.shape?, hb1]) (by simp [World.shape?, hb2]) (by cases cs' <;> simp at hne ⊢) (frozen_of hb1 (notIn.zero _)) (frozen_of hb1 (notIn.zero _))]
  rfl
end
end Pw
namespace Pw
open Go
section
variable {P : Program} {r : Rd} {c : Ctx} {L : List Assn} {E : Env} {d : Option Tmp} {ty : TypeId} {pos : String} {af : Array Edge} {g : Option (Nat × Bool)}

/-! ### The elements of a slice that owns its array -/
def elemP (sz : Nat) (v : Value) (i : Nat) : Value := match v with | .slice (some a) _ _ => .pointer (some ⟨a.block, a.off + i * sz, none⟩) | _ => undef
theorem elemP_at {sz b o n k i : Nat} : elemP sz (.slice (some ⟨b, o, none⟩) n k) i = .pointer (some ⟨b, o + i * sz, none⟩) := rfl

/-- Open for a moment, within one reading. -/
theorem D.open_sl {o : Oper} {u v : Value} {e : TypeId} {sz n i : Nat} {xs : List Value} (hm : LMem (sl e sz v n xs) L) (hi : i < n)
    (h : ∀ b k (rest : List Value) (w : World), v = .slice (some ⟨b, 0, none⟩) n (n + k) → (∀ j, xs.length = n * sz → ∀ x, xs[j]? = some x → w.cell? ⟨b, j, none⟩ = some x) → xs.length = n * sz → rest.length = k * sz → (execOp E.eval o).run P w = .ok (.value u) w) (hd : ∀ d, o.op ≠ .defer d) : D P c L E o u :=
  ⟨hd, fun w hw => by
    obtain ⟨f1, hsl, hf⟩ := SLh.mem hm hw.2.2.2
    rcases hsl with ⟨_, rfl, _⟩ | ⟨b, k, rest, hv, hl, hr, hrow⟩
    · omega
    · refine h b k rest w hv (fun j hl' x hx => ?_) hl hr
      have hj : j < xs.length := by
        rcases Nat.lt_or_ge j xs.length with h | h
        · exact h
        · rw [List.getElem?_eq_none h] at hx; cases hx
      exact Reads.row (e := e) (cs := xs ++ rest) (by rw [List.getElem?_append_left hj]; exact hx) f1 w hrow hf⟩

theorem D.iasO {x y : Operand} {v : Value} {n i sz : Nat} {t e : TypeId} {k : IntKind} {xs : List Value} (hx : E.eval x = v) (hy : E.eval y = .int k i) (ht : P.underlying t = some (.slice e)) (hz : P.cellsOf e = sz + 1) (hm : LMem (sl e (sz + 1) v n xs) L) (hi : i < n) :
    D P c L E ⟨d, .indexAddr t x y, ty, pos, af, g⟩ (elemP (sz + 1) v i) :=
  D.open_sl hm hi (fun b k' rest w hv _ _ _ => by
    subst hv
    exact (DP.ias (E := E) (P := P) hx hy ht hz hi).2 w) (fun _ => by simp)
theorem D.ldO1 {x : Operand} {v u : Value} {n i : Nat} {t e : TypeId} {xs : List Value} (hx : E.eval x = elemP 1 v i) (ht : plainT P t = true) (hm : LMem (sl e 1 v n xs) L) (hu : xs[i]? = some u) (hi : i < n) : D P c L E ⟨d, .load t x, ty, pos, af, g⟩ u :=
  D.open_sl hm hi (fun b k' rest w hv hrd hl _ => by
    subst hv
    have hc := hrd i hl u hu
    rw [elemP_at, Nat.zero_add, Nat.mul_one] at hx
    simp [execOp, hx, Instr.loadAt, Instr.sureAddr, loadVar, run_isAgg_plain ht, hc]) (fun _ => by simp)
theorem D.ldOA {x : Operand} {v : Value} {n i sz : Nat} {t e : TypeId} {xs us : List Value} (hx : E.eval x = elemP (sz + 1) v i) (ht : aggT P t = true) (hs : P.cellsOf t = sz + 1) (hm : LMem (sl e (sz + 1) v n xs) L) (hi : i < n) (hu : ∀ j u, us[j]? = some u → xs[i * (sz + 1) + j]? = some u) (hl : us.length = sz + 1) : D P c L E ⟨d, .load t x, ty, pos, af, g⟩ (.agg us.toArray) :=
  D.open_sl hm hi (fun b k' rest w hv hrd hxl _ => by
    subst hv
    rw [elemP_at, Nat.zero_add] at hx
    have hc := run_loadCells' (P := P) (w := w) (b := b) (o := i * (sz + 1)) (vs := us) (fun j u hj => hrd _ hxl u (hu j u hj))
    rw [hl] at hc
    simp [execOp, hx, Instr.loadAt, Instr.sureAddr, loadVar, run_isAgg_agg ht, run_sizeOf hs, hc]) (fun _ => by simp)
/-- One cell of an element: behind a field's address. -/
def elemF (sz : Nat) (v : Value) (i o : Nat) : Value := match v with | .slice (some a) _ _ => .pointer (some ⟨a.block, a.off + i * sz + o, none⟩) | _ => undef
theorem D.faO (fo : Nat) {x : Operand} {v : Value} {n i sz k m : Nat} {t e : TypeId} {fs : Array Field} {f : Field} {xs : List Value} (hx : E.eval x = elemP sz v i) (ht : P.underlying t = some (.struct fs)) (hf : fs[k]? = some f) (hfo : f.offset = fo) (hz : P.cellsOf f.type = m + 1) (hm : LMem (sl e sz v n xs) L) (hi : i < n) :
    D P c L E ⟨d, .fieldAddr t x k, ty, pos, af, g⟩ (elemF sz v i fo) :=
  D.open_sl hm hi (fun b k' rest w hv _ _ _ => by
    subst hv
    exact (DP.fa fo (E := E) (P := P) hx ht hf hfo hz).2 w) (fun _ => by simp)
theorem D.ldOF {x : Operand} {v u : Value} {n i o sz : Nat} {t e : TypeId} {xs : List Value} (hx : E.eval x = elemF sz v i o) (ht : plainT P t = true) (hm : LMem (sl e sz v n xs) L) (hu : xs[i * sz + o]? = some u) (hi : i < n) : D P c L E ⟨d, .load t x, ty, pos, af, g⟩ u :=
  D.open_sl hm hi (fun b k' rest w hv hrd hl _ => by
    subst hv
    have hc := hrd _ hl u hu
    have hx' : E.eval x = .pointer (some ⟨b, i * sz + o, none⟩) := by rw [hx]; simp [elemF]
    simp [execOp, hx', Instr.loadAt, Instr.sureAddr, loadVar, run_isAgg_plain ht, hc]) (fun _ => by simp)

theorem elemP_F (v : Value) (i : Nat) : elemP 1 v i = elemF 1 v i 0 := by
  unfold elemP elemF; split <;> simp_all
theorem Put.sl_open {e : TypeId} {sz n i : Nat} {v : Value} {xs : List Value} {w : World} {R : List Assn} (h : SL c (sl e sz v n xs :: R) w) (hi : i < n) :
    ∃ b k rest, v = .slice (some ⟨b, 0, none⟩) n (n + k) ∧ xs.length = n * sz ∧ rest.length = k * sz ∧ SL c (row e b (xs ++ rest) :: R) w := by
  obtain ⟨e1, e2, e3, f1, f2, hdj, hf1, hf2, hsl, hl⟩ := h
  rcases hsl with ⟨_, rfl, _⟩ | ⟨b, k, rest, hv, hxl, hrl, hrow⟩
  · omega
  · exact ⟨b, k, rest, hv, hxl, hrl, e1, e2, e3, f1, f2, hdj, hf1, hf2, hrow, hl⟩
/-- A store of one cell into an element. -/
theorem N.stOF {x y : Operand} {v u : Value} {n i o sz : Nat} {t e : TypeId} {xs : List Value} {L' : List Assn} (hx : E.eval x = elemF sz v i o) (hy : E.eval y = u) (hs : P.cellsOf t = 1) (hp : Put (sl e sz v n xs) L (sl e sz v n (xs.set (i * sz + o) u)) L') (hi : i < n) (ho : o < sz) (hu : u.oneCell' = true) :
    N P r c L E ⟨d, .store t x y, ty, pos, af, g⟩ (fun u L'' => u = undef ∧ L'' = L') := fun w hw => by
  obtain ⟨R, h1, h2⟩ := hp.del
  obtain ⟨b, k, rest, hv, hxl, hrl, hw1⟩ := Put.sl_open (hw.perm h1) hi
  subst hv
  have hx' : E.eval x = .pointer (some ⟨b, i * sz + o, none⟩) := by rw [hx]; simp [elemF]
  have hlt : i * sz + o < xs.length := by
    rw [hxl]
    have : i * sz + sz ≤ n * sz := by rw [← Nat.succ_mul]; exact Nat.mul_le_mul_right _ hi
    omega
  intro K Q hK
  refine N.st (P := P) (r := r) (c := c) (t := t) (et := e) (d := d) (ty := ty) (pos := pos) (af := af) (g := g) hx' hy hs (Put.head (row e b (xs ++ rest)) _ R) (by simp; omega) hu w hw1 K Q ?_
  rintro v' L'' w' ⟨rfl, rfl⟩ hw'
  refine hK _ _ w' ⟨rfl, rfl⟩ ?_
  rw [List.set_append_left _ _ hlt] at hw'
  exact (Ent.sl (by simpa using hxl) hrl w' hw').perm h2.symm
theorem N.stO1 {x y : Operand} {v u : Value} {n i : Nat} {t e : TypeId} {xs : List Value} {L' : List Assn} (hx : E.eval x = elemP 1 v i) (hy : E.eval y = u) (hs : P.cellsOf t = 1) (hp : Put (sl e 1 v n xs) L (sl e 1 v n (xs.set i u)) L') (hi : i < n) (hu : u.oneCell' = true) :
    N P r c L E ⟨d, .store t x y, ty, pos, af, g⟩ (fun u L'' => u = undef ∧ L'' = L') :=
  N.stOF (sz := 1) (v := v) (i := i) (o := 0) (by rw [hx]; exact elemP_F v i) hy hs (by simpa using hp) hi (by omega) hu
/-- .. of a whole element. -/
theorem N.stOA {x y : Operand} {v : Value} {us : List Value} {n i sz : Nat} {t e : TypeId} {xs : List Value} {L' : List Assn} (hx : E.eval x = elemP (sz + 1) v i) (hy : E.eval y = .agg us.toArray) (hs : P.cellsOf t = sz + 1) (hp : Put (sl e (sz + 1) v n xs) L (sl e (sz + 1) v n (setAll xs (i * (sz + 1)) us)) L') (hi : i < n) (hl : us.length = sz + 1) (hu : ∀ u ∈ us, u.oneCell' = true) :
    N P r c L E ⟨d, .store t x y, ty, pos, af, g⟩ (fun u L'' => u = undef ∧ L'' = L') := fun w hw => by
  obtain ⟨R, h1, h2⟩ := hp.del
  obtain ⟨b, k, rest, hv, hxl, hrl, hw1⟩ := Put.sl_open (hw.perm h1) hi
  subst hv
  have hx' : E.eval x = .pointer (some ⟨b, i * (sz + 1), none⟩) := by rw [hx]; simp [elemP]
  have hlt : i * (sz + 1) + us.length ≤ xs.length := by
    rw [hxl, hl, ← Nat.succ_mul]; exact Nat.mul_le_mul_right _ hi
  intro K Q hK
  refine N.stA (P := P) (r := r) (c := c) (t := t) (et := e) (d := d) (ty := ty) (pos := pos) (af := af) (g := g) (n := sz) hx' hy hs (Put.head (row e b (xs ++ rest)) _ R) (by simp; omega) hu hl w hw1 K Q ?_
  rintro v' L'' w' ⟨rfl, rfl⟩ hw'
  refine hK _ _ w' ⟨rfl, rfl⟩ ?_
  have he : setAll (xs ++ rest) (i * (sz + 1)) us = setAll xs (i * (sz + 1)) us ++ rest := by
    rw [setAll_eq _ _ _ (by simp; omega), setAll_eq _ _ _ hlt, List.take_append_of_le_length (by omega), List.drop_append_of_le_length hlt]; simp
  rw [he] at hw'
  exact (Ent.sl (by rw [length_setAll]; exact hxl) hrl w' hw').perm h2.symm

/-- Another name for a value. -/
theorem DP.to {o : Oper} {v v' : Value} (h : DP P E o v) (e : v = v') : DP P E o v' := e ▸ h
theorem D.to {o : Oper} {v v' : Value} (h : D P c L E o v) (e : v = v') : D P c L E o v' := e ▸ h
theorem N.imp {o : Oper} {Φ Ψ : Value → List Assn → Prop} (h : N P r c L E o Φ) (e : ∀ v L', Φ v L' → Ψ v L') : N P r c L E o Ψ := fun w hw K Q hK => h w hw K Q fun v L' w' hΦ hw' => hK v L' w' (e v L' hΦ) hw'
end
end Pw
namespace Pw
open Go
/-! ### Lists of things of k cells each -/
section
variable {α : Type} {f : α → List Value} {k : Nat}
theorem flat_len (hf : ∀ x, (f x).length = k) : ∀ l : List α, (l.flatMap f).length = l.length * k
  | [] => by simp
  | a :: l => by rw [List.flatMap_cons, List.length_append, flat_len hf l, hf, List.length_cons, Nat.succ_mul, Nat.add_comm]
theorem flat_get (hf : ∀ x, (f x).length = k) : ∀ (l : List α) (i j : Nat), j < k → (l.flatMap f)[i * k + j]? = (l[i]?).bind fun x => (f x)[j]?
  | [], i, j, _ => by simp
  | a :: l, 0, j, hj => by
    rw [List.flatMap_cons, Nat.zero_mul, Nat.zero_add, List.getElem?_append_left (by rw [hf]; exact hj)]; rfl
  | a :: l, i + 1, j, hj => by
    rw [List.flatMap_cons, List.getElem?_append_right (by rw [hf, Nat.succ_mul]; omega), hf, show (i + 1) * k + j - k = i * k + j by rw [Nat.succ_mul]; omega, flat_get hf l i j hj]; rfl
theorem flat_elem (hf : ∀ x, (f x).length = k) {l : List α} {i : Nat} {x : α} (hx : l[i]? = some x) : ∀ j u, (f x)[j]? = some u → (l.flatMap f)[i * k + j]? = some u := fun j u hu => by
  have hj : j < k := by
    rcases Nat.lt_or_ge j (f x).length with h | h
    · rwa [hf] at h
    · rw [List.getElem?_eq_none h] at hu; cases hu
  rw [flat_get hf l i j hj, hx]; exact hu
theorem flat_take (hf : ∀ x, (f x).length = k) : ∀ (l : List α) (i : Nat), (l.flatMap f).take (i * k) = (l.take i).flatMap f
  | [], i => by simp
  | a :: l, 0 => by simp
  | a :: l, i + 1 => by
    rw [List.flatMap_cons, List.take_succ_cons, List.flatMap_cons, List.take_append, hf, show (i + 1) * k - k = i * k by rw [Nat.succ_mul]; omega, flat_take hf l i, List.take_of_length_le (by rw [hf, Nat.succ_mul]; omega)]
theorem flat_drop (hf : ∀ x, (f x).length = k) : ∀ (l : List α) (i : Nat), (l.flatMap f).drop (i * k) = (l.drop i).flatMap f
  | [], i => by simp
  | a :: l, 0 => by simp
  | a :: l, i + 1 => by
    rw [List.flatMap_cons, List.drop_succ_cons, List.drop_append, hf, show (i + 1) * k - k = i * k by rw [Nat.succ_mul]; omega, flat_drop hf l i, List.drop_of_length_le (by rw [hf, Nat.succ_mul]; omega), List.nil_append]
theorem flat_set (hf : ∀ x, (f x).length = k) (l : List α) (i : Nat) (hi : i < l.length) (y : α) : setAll (l.flatMap f) (i * k) (f y) = (l.set i y).flatMap f := by
  rw [setAll_eq _ _ _ (by rw [hf, flat_len hf, ← Nat.succ_mul]; exact Nat.mul_le_mul_right _ hi), hf, ← Nat.succ_mul, flat_take hf, flat_drop hf, List.set_eq_take_append_cons_drop, if_pos hi]
  simp
theorem setAll_one (cs : List Value) (o : Nat) (v : Value) : setAll cs o [v] = cs.set o v := rfl
end
end Pw
namespace Pw
open Go
def Imp (L L' : List Assn) : Prop := ∀ f, SLh L f → SLh L' f
theorem Imp.refl (L : List Assn) : Imp L L := fun _ h => h
theorem Imp.nil (L : List Assn) : Imp L [] := fun _ _ => trivial
theorem Imp.drop {A : Assn} {L L' : List Assn} (k : Imp L L') : Imp (A :: L) L' := fun f h => k f h.tail
theorem Imp.pull {A : Assn} {L L' R : List Assn} (h : Del A L R) (k : Imp R L') : Imp L (A :: L') := fun _ hf => SLh.cons k (hf.perm h.perm)
theorem Imp.sl {e : TypeId} {sz n k b : Nat} {xs rest : List Value} {L L' R : List Assn} (h : Del (row e b (xs ++ rest)) L R) (hx : xs.length = n * sz) (hr : rest.length = k * sz) (i : Imp R L') : Imp L (Pw.sl e sz (.slice (some ⟨b, 0, none⟩) n (n + k)) n xs :: L') :=
  fun _ hf => SLh.imp (fun _ h => .inr ⟨b, k, rest, rfl, hx, hr, h⟩) (SLh.cons i (hf.perm h.perm))
theorem Imp.sl0 {e : TypeId} {sz n b : Nat} {xs : List Value} {L L' R : List Assn} (h : Del (row e b xs) L R) (hx : xs.length = n * sz) (i : Imp R L') : Imp L (Pw.sl e sz (.slice (some ⟨b, 0, none⟩) n n) n xs :: L') :=
  Imp.sl (k := 0) (rest := []) (by simpa using h) hx (by simp) i
theorem Imp.slN {e : TypeId} {sz : Nat} {L L' : List Assn} (i : Imp L L') : Imp L (Pw.sl e sz (.slice none 0 0) 0 [] :: L') :=
  fun f hf => ⟨fun _ => none, f, fun _ => .inl rfl, fun _ _ h => by simp at h, fun _ _ h => h, .inl ⟨rfl, rfl, rfl⟩, i f hf⟩
theorem Imp.row {e : TypeId} {b : Nat} {cs : List Value} {L L' R : List Assn} (h : Del (pt b (.cells cs.toArray e (0, 0))) L R) (i : Imp R L') : Imp L (Pw.row e b cs :: L') :=
  fun _ hf => SLh.imp (fun _ h => row.mk h) (SLh.cons i (hf.perm h.perm))
theorem Ent.imp {c : Ctx} {L L' : List Assn} (h : Imp L L') : Ent c L L' := fun _ hw => ⟨hw.1, hw.2.1, hw.2.2.1, h _ hw.2.2.2⟩
theorem Sat.imp {P : Program} {f : FuncId} {args : List Value} {A A' : List Assn} {B : Value → List Assn → Prop} (hA : Imp A A') (h : Sat P f args A' B) : Sat P f args A B := fun c R w hw => h c R w (by
  refine ⟨hw.1, hw.2.1, hw.2.2.1, ?_⟩
  obtain ⟨f1, f2, hd, h1, h2, hA1, hR⟩ := SLh.shut hw.2.2.2
  exact SLh.flat hd h1 h2 (hA _ hA1) hR)
end Pw
namespace Pw
open Go
section
variable {P : Program} {r : Rd} {c : Ctx} {L : List Assn} {E : Env} {d : Option Tmp} {ty : TypeId} {pos : String} {af : Array Edge} {g : Option (Nat × Bool)}
theorem DP.maxI {x y : Operand} {k : IntKind} {a b : Int} {ts : Array TypeId} (hx : E.eval x = .int k a) (hy : E.eval y = .int k b) : DP P E ⟨d, .call ⟨.builtin .max, #[x, y], ts⟩, ty, pos, af, g⟩ (.int k (max a b)) :=
  DP.mk (fun _ => by simp) (fun w => by
    simp [execOp, resolve, invoke, builtin, hx, hy, Builtin.max_, Builtin.max2]
    try omega)
theorem DP.minI {x y : Operand} {k : IntKind} {a b : Int} {ts : Array TypeId} (hx : E.eval x = .int k a) (hy : E.eval y = .int k b) : DP P E ⟨d, .call ⟨.builtin .min, #[x, y], ts⟩, ty, pos, af, g⟩ (.int k (min a b)) :=
  DP.mk (fun _ => by simp) (fun w => by
    simp [execOp, resolve, invoke, builtin, hx, hy, Builtin.min_, Builtin.min2]
    try omega)
theorem DP.remI {x y : Operand} {k : IntKind} {a b : Int} {t t' : TypeId} (hx : E.eval x = .int k a) (hy : E.eval y = .int k b) (hb : b ≠ 0) : DP P E ⟨d, .binOp .rem t x y t', ty, pos, af, g⟩ (.int k (a.tmod b)) :=
  DP.mk (fun _ => by simp) (fun w => by
    simp only [execOp, hx, hy, eqGuard_rem, binOp_rem, Op.intDiv, if_neg hb]; simp)
theorem DP.quoI {x y : Operand} {k : IntKind} {a b : Int} {t t' : TypeId} (hx : E.eval x = .int k a) (hy : E.eval y = .int k b) (hb : b ≠ 0) : DP P E ⟨d, .binOp .quo t x y t', ty, pos, af, g⟩ (.int k (k.wrap (a.tdiv b))) :=
  DP.mk (fun _ => by simp) (fun w => by
    simp only [execOp, hx, hy, eqGuard_quo, binOp_quo, Op.intDiv, if_neg hb]; simp)
end
end Pw
namespace Pw
open Go
section
variable {P : Program} {f : FuncId} {args : List Value} {B B' : Value → List Assn → Prop}
theorem Sat.open_sl {R : List Assn} {e : TypeId} {sz n : Nat} {v : Value} {xs : List Value}
    (h0 : v = .slice none 0 0 → n = 0 → xs = [] → Sat P f args R B)
    (h1 : ∀ b k rest, v = .slice (some ⟨b, 0, none⟩) n (n + k) → xs.length = n * sz → rest.length = k * sz → Sat P f args (row e b (xs ++ rest) :: R) B) : Sat P f args (sl e sz v n xs :: R) B := fun c R' w hw => by
  obtain ⟨e1, e2, e3, f1, f2, hdj, hf1, hf2, hsl, hl⟩ := hw
  rcases hsl with ⟨hv, hn, hxs⟩ | ⟨b, k, rest, hv, hxl, hrl, hrow⟩
  · exact h0 hv hn hxs c R' w ⟨e1, e2, e3, hl.mono hf2⟩
  · exact h1 b k rest hv hxl hrl c R' w ⟨e1, e2, e3, f1, f2, hdj, hf1, hf2, hrow, hl⟩
theorem SL.imp_left {c : Ctx} {A A' R : List Assn} {w : World} (hA : Imp A A') (hw : SL c (A ++ R) w) : SL c (A' ++ R) w := by
  refine ⟨hw.1, hw.2.1, hw.2.2.1, ?_⟩
  obtain ⟨f1, f2, hd, h1, h2, hA1, hR⟩ := SLh.shut hw.2.2.2
  exact SLh.flat hd h1 h2 (hA _ hA1) hR
/-- What is left may be told less exactly. -/
theorem Sat.post {A : List Assn} (h : Sat P f args A B) (hB : ∀ v L', B v L' → ∃ L'', Imp L' L'' ∧ B' v L'') : Sat P f args A B' := fun c R w hw => by
  refine CallsIn.mono (h c R w hw) ?_
  rintro e w' ⟨v, L', he, hb, hw'⟩
  obtain ⟨L'', hi, hb'⟩ := hB v L' hb
  exact ⟨v, L'', he, hb', SL.imp_left hi hw'⟩
theorem Ent.slP {c : Ctx} {L : List Assn} {b n sz : Nat} {e : TypeId} {cs : List Value} (h : cs.length = n * sz) : Ent c (pt b (.cells cs.toArray e (0, 0)) :: L) (Pw.sl e sz (.slice (some ⟨b, 0, none⟩) n n) n cs :: L) :=
  Ent.imp (Imp.sl0 (b := b) (xs := cs) (R := L) (L := Pw.row e b cs :: L) (Del.head _ _) h (Imp.refl _)) |> fun h2 => Ent.trans (Ent.imp (Imp.row (Del.head _ _) (Imp.refl _))) h2
/-- A store of a slice that owns its array. -/
theorem N.stS {r : Rd} {c : Ctx} {L : List Assn} {E : Env} {d : Option Tmp} {ty : TypeId} {pos : String} {af : Array Edge} {g : Option (Nat × Bool)} {x y : Operand} {b o n sz : Nat} {v : Value} {t et e : TypeId} {cs xs : List Value} {L' : List Assn}
    (hx : E.eval x = .pointer (some ⟨b, o, none⟩)) (hy : E.eval y = v) (hi : P.cellsOf t = 1) (hm : LMem (sl e sz v n xs) L)
    (hp : Put (row et b cs) L (row et b (cs.set o v)) L') (ho : o < cs.length) :
    N P r c L E ⟨d, .store t x y, ty, pos, af, g⟩ (fun u L'' => u = undef ∧ L'' = L') := fun w hw =>
  N.st hx hy hi hp ho (hw.pure hm (fun f hf => by rcases hf with ⟨rfl, _⟩ | ⟨_, _, _, rfl, _⟩ <;> rfl)) w hw
/-- A call of a closure: its contract takes the arguments, then what it caught. -/
theorem N.callC (m : Nat) {r : Rd} {c : Ctx} {L : List Assn} {E : Env} {d : Option Tmp} {ty : TypeId} {pos : String} {af : Array Edge} {g : Option (Nat × Bool)} {fo : Operand} {xs : List Operand} {ats : Array TypeId} {A R : List Assn}
    (hs : Sat P f args A B) (hc : ∀ args w, (callFunc f args).run P w = .ok (.enter f args) w) (hf : E.eval fo = .func (.func f) #[] (args.drop m).toArray) (ha : evL E xs (args.take m)) (hp : Pick A L R) :
    N P r c L E ⟨d, .call ⟨.value fo, xs.toArray, ats⟩, ty, pos, af, g⟩ (fun v L' => ∃ L1, B v L1 ∧ L1 ++ R = L') :=
  N.call (first := []) (cap := args.drop m) (vs := args.take m) hf (by simpa using hs) hc ha hp
end
section
theorem get_some {α : Type} {l : List α} {i : Nat} (h : i < l.length) : ∃ x, l[i]? = some x := ⟨l[i], List.getElem?_eq_getElem h⟩
theorem mem_of_get {α : Type} {l : List α} {i : Nat} {x : α} (h : l[i]? = some x) : x ∈ l := List.mem_of_getElem? h
/-- cells of a list's end -/
theorem drop_reads {cs : List Value} {o m : Nat} : ∀ i v, ((cs.drop o).take m)[i]? = some v → cs[o + i]? = some v := fun i v hv => by
  rw [List.getElem?_take] at hv
  split at hv
  · rwa [List.getElem?_drop] at hv
  · cases hv
theorem setAll_mid {A M C s : List Value} (h : M.length = s.length) : setAll (A ++ M ++ C) A.length s = A ++ s ++ C := by
  rw [setAll_eq _ _ _ (by simp; omega), List.append_assoc A M C, List.take_left, List.drop_append, List.drop_of_length_le (by omega)]
  simp only [List.nil_append, Nat.add_sub_cancel_left]
  rw [← h, List.drop_left]
theorem split_at' (l : List Value) (i : Nat) (h : i ≤ l.length) : ∃ p q, l = p ++ q ∧ p.length = i ∧ q.length = l.length - i := ⟨l.take i, l.drop i, by simp, by simp; omega, by simp⟩
/-- An insertion in place. -/
theorem ins_cells {X Y r s : List Value} (hr : s.length ≤ r.length) : setAll (setAll (X ++ Y ++ r) (X.length + s.length) Y) X.length s = X ++ s ++ Y ++ r.drop s.length := by
  obtain ⟨r0, r1, rfl, h0, _⟩ := split_at' r s.length hr
  obtain ⟨p, q, hpq, hp, hq⟩ := split_at' (Y ++ r0) s.length (by simp; omega)
  have e : X ++ Y ++ (r0 ++ r1) = (X ++ p) ++ q ++ r1 := by rw [← List.append_assoc, List.append_assoc X, hpq]; simp
  rw [e, show X.length + s.length = (X ++ p).length by simp [hp], setAll_mid (by simp at hq; omega)]
  rw [List.append_assoc, List.append_assoc, ← List.append_assoc X p, setAll_mid hp, ← h0, List.drop_left]
  simp
/-- .. into new room -/
theorem ins_cells2 {X Y z r s : List Value} (hz : z.length = s.length + Y.length) : setAll (setAll (X ++ z ++ r) X.length s) (X.length + s.length) Y = X ++ s ++ Y ++ r := by
  obtain ⟨p, q, rfl, hp, hq⟩ := split_at' z s.length (by omega)
  rw [show X ++ (p ++ q) ++ r = X ++ p ++ (q ++ r) by simp, setAll_mid hp, ← List.append_assoc, show X.length + s.length = (X ++ s).length by simp, setAll_mid (by omega)]
/-- A deletion in place. -/
theorem del_cells {X s Z r z : List Value} (hz : z.length = s.length) : setAll (setAll (X ++ s ++ Z ++ r) X.length Z) (X.length + Z.length) z = X ++ Z ++ (z ++ r) := by
  obtain ⟨p, q, hpq, hp, hq⟩ := split_at' (s ++ Z) Z.length (by simp)
  rw [show X ++ s ++ Z ++ r = X ++ (s ++ Z) ++ r by simp, hpq, show X ++ (p ++ q) ++ r = X ++ p ++ (q ++ r) by simp, setAll_mid hp, ← List.append_assoc, show X.length + Z.length = (X ++ Z).length by simp, setAll_mid (by simp at hq; omega)]
  simp
end
end Pw
namespace Pw
open Go
def cellsL : Value → List Value
  | .agg c => c.toList
  | v => [v]
theorem cellsL_eq (v : Value) : v.cells = (cellsL v).toArray := by cases v <;> simp [Value.cells, cellsL]
def evP (E : Env) : List (Nat × Operand) → List (Nat × Value) → Prop
  | [], [] => True
  | p :: ps, q :: vs => p.1 = q.1 ∧ E.eval p.2 = q.2 ∧ evP E ps vs
  | _, _ => False
theorem evP.map {E : Env} : ∀ {ps : List (Nat × Operand)} {vs : List (Nat × Value)}, evP E ps vs → (ps.toArray.map fun (i, x) => (i, E.eval x)) = vs.toArray
  | [], [], _ => by simp
  | (i, x) :: ps, (j, v) :: vs, h => by
    obtain ⟨h1, h2, h3⟩ := h
    have := evP.map h3
    simp only [List.map_toArray] at this ⊢
    have h4 := congrArg Array.toList this
    simp only at h4
    simp only at h1 h2
    rw [List.map_cons, h4, h1, h2]
  | [], _ :: _, h => h.elim
  | _ :: _, [], h => h.elim
def fillL (pl : Nat → Option (Nat × Nat)) : List Value → List (Nat × Value) → Option (List Value)
  | zs, [] => some zs
  | zs, q :: t => match pl q.1 with
    | some on => bif Nat.beq (cellsL q.2).length on.2 && Nat.ble (on.1 + on.2) zs.length then fillL pl (setAll zs on.1 (cellsL q.2)) t else none
    | none => none
theorem foldl_setL : ∀ (vs : List Value) (zs : List Value) (o k : Nat), (vs.zipIdx k).foldl (fun (cs : Array Value) (x : Value × Nat) => cs.setIfInBounds (o + x.2) x.1) zs.toArray = (setAll zs (o + k) vs).toArray
  | [], zs, o, k => by simp [setAll]
  | v :: vs, zs, o, k => by
    have := foldl_setL vs (zs.set (o + k) v) o (k + 1)
    rw [List.zipIdx_cons, List.foldl_cons, setAll, ← Nat.add_assoc] at *
    rw [← this]
    simp
theorem foldl_setAll (vs zs : List Value) (o k : Nat) : (vs.toArray.zipIdx k).foldl (fun (cs : Array Value) (x : Value × Nat) => cs.setIfInBounds (o + x.2) x.1) zs.toArray = (setAll zs (o + k) vs).toArray := by
  have h : vs.toArray.zipIdx k = (vs.zipIdx k).toArray := by
    apply Array.ext'
    rw [Array.toList_zipIdx]
  rw [h, List.foldl_toArray]
  exact foldl_setL vs zs o k
theorem fillL_eq (pl : Nat → Option (Nat × Nat)) : ∀ (vs : List (Nat × Value)) (zs us : List Value), fillL pl zs vs = some us → Instr.fill pl zs.toArray vs = some us.toArray
  | [], zs, us, h => by simp only [fillL, Option.some.injEq] at h; subst h; rfl
  | (i, v) :: t, zs, us, h => by
    simp only [fillL] at h
    simp only [Instr.fill]
    cases hp : pl i with
    | none => simp [hp] at h
    | some on =>
      obtain ⟨o, n⟩ := on
      simp only [hp] at h
      cases hb : (Nat.beq (cellsL v).length n && Nat.ble (o + n) zs.length) with
      | false => simp [hb] at h
      | true =>
        simp only [hb, cond_true] at h
        simp only [Bool.and_eq_true] at hb
        have h1 := Nat.eq_of_beq_eq_true hb.1
        have h2 := Nat.le_of_ble_eq_true hb.2
        have h3 := fillL_eq pl t _ us h
        have h4 := foldl_setAll (cellsL v) zs o 0
        simp only [cellsL_eq, List.size_toArray, h1]
        have h5 : ¬ (o + n > zs.length) := by omega
        simp only [ne_eq, not_true_eq_false, h5, decide_false, Bool.or_self, Bool.false_eq_true, if_false]
        simp only [Nat.add_zero] at h4
        rw [h4]
        exact h3
section
variable {P : Program} {r : Rd} {c : Ctx} {L : List Assn} {E : Env} {d : Option Tmp} {ty : TypeId} {pos : String} {af : Array Edge} {g : Option (Nat × Bool)}
theorem DP.bdL {ps : List (Nat × Operand)} {vs : List (Nat × Value)} {t : TypeId} {pl : List (Nat × Nat)} {z : Value} {us : List Value} (hv : evP E ps vs) (hp : placesOf P t = some pl) (hz : P.zeroOf t = some z)
    (hf : fillL (fun i => pl[i]?) (cellsL z) vs = some us) : DP P E ⟨d, .build t ps.toArray, ty, pos, af, g⟩ (.agg us.toArray) :=
  DP.bdS hv.map hp hz (by rw [cellsL_eq]; exact fillL_eq _ _ _ _ hf)
theorem DP.baL {ps : List (Nat × Operand)} {vs : List (Nat × Value)} {t e : TypeId} {n len : Nat} {z : Value} {us : List Value} (hv : evP E ps vs) (ht : P.underlying t = some (.array len e)) (hs : P.cellsOf e = n + 1) (hz : P.zeroOf t = some z)
    (hf : fillL (fun i => some (i * (n + 1), n + 1)) (cellsL z) vs = some us) : DP P E ⟨d, .build t ps.toArray, ty, pos, af, g⟩ (.agg us.toArray) :=
  DP.bdA hv.map ht hs hz (by rw [cellsL_eq]; exact fillL_eq _ _ _ _ hf)
theorem DP.mfL {fn : Go.Fn} {xs ys : List Operand} {us vs : List Value} (h1 : evL E xs us) (h2 : evL E ys vs) : DP P E ⟨d, .makeFunc fn xs.toArray ys.toArray, ty, pos, af, g⟩ (.func fn us.toArray vs.toArray) :=
  DP.mf (by rw [← evL.map h1]; simp) (by rw [← evL.map h2]; simp)
theorem N.bsL {ps : List (Nat × Operand)} {vs : List (Nat × Value)} {z : Value} {t e : TypeId} {len n : Nat} {us : List Value} (hv : evP E ps vs) (ht : P.underlying t = some (.slice e)) (hsz : P.cellsOf e = n + 1) (hz : P.zeroOf e = some z) (hzl : (cellsL z).length = n + 1) (hlim : len * (n + 1) ≤ 16777216)
    (hf : fillL (fun i => some (i * (n + 1), n + 1)) (List.replicate len (cellsL z)).flatten vs = some us) :
    N P r c L E ⟨d, .buildSlice t len ps.toArray, ty, pos, af, g⟩ (fun u L' => ∃ b, u = .slice (some ⟨b, 0, none⟩) len len ∧ L' = pt b (.cells us.toArray e (0, 0)) :: L) :=
  N.bs hv.map ht hsz hz (cellsL_eq z) hzl hlim (fillL_eq _ _ _ _ hf)
end
end Pw
namespace Pw
open Go
/-! What is held as one thing: some a with p a, and what it consists of. -/
def exA {α : Type} (p : α → Prop) (Ls : α → List Assn) : Assn := fun f => ∃ a, p a ∧ SLh (Ls a) f
section
variable {P : Program} {r : Rd} {c : Ctx} {L R : List Assn} {E : Env} {Q : Exit → Env → Rd → World → Prop} {α : Type} {p : α → Prop} {Ls : α → List Assn}
theorem SL.openA {w : World} (h : SL c (exA p Ls :: R) w) : ∃ a, p a ∧ SL c (Ls a ++ R) w := by
  obtain ⟨e1, e2, e3, f1, f2, hd, h1, h2, ⟨a, hp, ha⟩, hr⟩ := h
  exact ⟨a, hp, e1, e2, e3, SLh.flat hd h1 h2 ha hr⟩
theorem T.openA {code : Code} (hd : Del (exA p Ls) L R) (k : ∀ a, p a → T P r c (Ls a ++ R) code Q E) : T P r c L code Q E := fun w hw => by
  obtain ⟨a, hp, ha⟩ := (hw.perm hd.perm).openA
  exact k a hp w ha
theorem TO.openA {ops : Array Oper} {l : List Oper} (hd : Del (exA p Ls) L R) (k : ∀ a, p a → TO P r c (Ls a ++ R) ops Q l E) : TO P r c L ops Q l E := fun w hw => by
  obtain ⟨a, hp, ha⟩ := (hw.perm hd.perm).openA
  exact k a hp w ha
theorem Sat.openA {f : FuncId} {args : List Value} {B : Value → List Assn → Prop} (hd : Del (exA p Ls) L R) (k : ∀ a, p a → Sat P f args (Ls a ++ R) B) : Sat P f args L B := fun c R' w hw => by
  obtain ⟨a, hp, ha⟩ := SL.openA (R := R ++ R') (hw.perm (hd.perm.append_right R'))
  exact k a hp c R' w (by simpa using ha)
theorem SLh.purA {f : Frag} (h : SLh L f) (hm : LMem (exA p Ls) L) : ∃ a, p a := by
  obtain ⟨f1, ⟨a, hp, _⟩, _⟩ := SLh.mem hm h
  exact ⟨a, hp⟩
theorem Imp.shutA (a : α) (hp : p a) (h : Imp L (Ls a ++ R)) : Imp L (exA p Ls :: R) := fun f hf => by
  obtain ⟨f1, f2, hd, h1, h2, hl, hr⟩ := SLh.shut (h f hf)
  exact ⟨f1, f2, hd, h1, h2, ⟨a, hp, hl⟩, hr⟩
theorem Imp.perm {L L' : List Assn} (h : L.Perm L') : Imp L L' := fun _ hf => hf.perm h
theorem Imp.trans {L L' L'' : List Assn} (h : Imp L L') (h' : Imp L' L'') : Imp L L'' := fun f hf => h' f (h f hf)
end
end Pw
namespace Pw
open Go
section
variable {P : Program} {r : Rd} {c : Ctx} {Lr L : List Assn} {ns : List Nat} {ops : Array Oper} {Q : Exit → Env → Rd → World → Prop} {fuel : Nat} {listed : Array Bool}
variable {nt : Nat} {l : List (Nat × Value)} {gb : Nat → Value}
theorem Sat.openA1 {f : FuncId} {args : List Value} {B : Value → List Assn → Prop} {α : Type} {p : α → Prop} {Ls : α → List Assn} (k : ∀ a, p a → Sat P f args (Ls a) B) : Sat P f args [exA p Ls] B :=
  Sat.openA (.head _ _) fun a ha => by rw [List.append_nil]; exact k a ha
theorem Imp.shutA1 {α : Type} {p : α → Prop} {Ls : α → List Assn} {L : List Assn} (a : α) (hp : p a) (h : Imp L (Ls a)) : Imp L [exA p Ls] :=
  Imp.shutA a hp (by rw [List.append_nil]; exact h)
end
end Pw
namespace Pw
open Go
/-! ### What came in: slices that are read alone -/
/-- v is a slice of n elements of sz cells each; at the start its cells held xs. -/
def Inp (h : Array Obj) (sz n : Nat) (v : Value) (xs : List Value) : Prop :=
  xs.length = n * sz ∧ n ≤ 140737488351232 ∧ ∃ (a : Option Addr) (cap : Nat), v = .slice a n cap ∧ (n = 0 ∨ ∃ b o, a = some ⟨b, o, none⟩ ∧ ∀ j u, xs[j]? = some u → ∀ w : World, w.heap = h → w.cell? ⟨b, o + j, none⟩ = some u)
theorem Inp.at {h : Array Obj} {sz n i : Nat} {v : Value} {xs : List Value} (H : Inp h sz n v xs) (hi : i < n) :
    ∃ b o cap, v = .slice (some ⟨b, o, none⟩) n cap ∧ ∀ j u, xs[j]? = some u → Reads (old h) ⟨b, o + j, none⟩ u := by
  obtain ⟨_, _, a, cap, rfl, h0 | ⟨b, o, rfl, hr⟩⟩ := H
  · omega
  · exact ⟨b, o, cap, rfl, fun j u hu => Reads.old (hr j u hu)⟩
section
variable {P : Program} {r : Rd} {c : Ctx} {L : List Assn} {E : Env} {d : Option Tmp} {ty : TypeId} {pos : String} {af : Array Edge} {g : Option (Nat × Bool)} {h : Array Obj}
theorem DP.lenI {x : Operand} {v : Value} {n sz : Nat} {xs : List Value} {t e : TypeId} (hI : Inp h sz n v xs) (hx : E.eval x = v) (ht : P.underlying t = some (.slice e)) : DP P E ⟨d, .call ⟨.builtin .len, #[x], #[t]⟩, ty, pos, af, g⟩ (.int .i64 (n : Int)) := by
  obtain ⟨_, _, a, cap, rfl, _⟩ := hI
  exact DP.lenS hx ht
theorem DP.iasH {x y : Operand} {v : Value} {n i sz : Nat} {t e : TypeId} {k : IntKind} {xs : List Value} (hI : Inp h (sz + 1) n v xs) (hx : E.eval x = v) (hy : E.eval y = .int k i) (ht : P.underlying t = some (.slice e)) (hz : P.cellsOf e = sz + 1) (hi : i < n) :
    DP P E ⟨d, .indexAddr t x y, ty, pos, af, g⟩ (elemP (sz + 1) v i) := by
  obtain ⟨b, o, cap, rfl, _⟩ := hI.at hi
  exact DP.ias hx hy ht hz hi
theorem DP.faH (fo : Nat) {x : Operand} {v : Value} {n i sz k m : Nat} {t : TypeId} {fs : Array Field} {f : Field} {xs : List Value} (hI : Inp h sz n v xs) (hi : i < n) (hx : E.eval x = elemP sz v i) (ht : P.underlying t = some (.struct fs)) (hf : fs[k]? = some f) (hfo : f.offset = fo) (hz : P.cellsOf f.type = m + 1) :
    DP P E ⟨d, .fieldAddr t x k, ty, pos, af, g⟩ (elemF sz v i fo) := by
  obtain ⟨b, o, cap, rfl, _⟩ := hI.at hi
  exact DP.fa fo hx ht hf hfo hz
theorem D.ldH1 {x : Operand} {v u : Value} {n i : Nat} {t : TypeId} {xs : List Value} (hI : Inp h 1 n v xs) (hi : i < n) (hx : E.eval x = elemP 1 v i) (ht : plainT P t = true) (hm : LMem (old h) L) (hu : xs[i]? = some u) : D P c L E ⟨d, .load t x, ty, pos, af, g⟩ u := by
  obtain ⟨b, o, cap, rfl, hr⟩ := hI.at hi
  rw [elemP_at, Nat.mul_one] at hx
  exact D.ld hx ht hm (hr i u hu)
theorem D.ldHA {x : Operand} {v : Value} {n i sz : Nat} {t : TypeId} {xs us : List Value} (hI : Inp h (sz + 1) n v xs) (hi : i < n) (hx : E.eval x = elemP (sz + 1) v i) (ht : aggT P t = true) (hs : P.cellsOf t = sz + 1) (hm : LMem (old h) L) (hu : ∀ j u, us[j]? = some u → xs[i * (sz + 1) + j]? = some u) (hl : us.length = sz + 1) : D P c L E ⟨d, .load t x, ty, pos, af, g⟩ (.agg us.toArray) := by
  obtain ⟨b, o, cap, rfl, hr⟩ := hI.at hi
  rw [elemP_at] at hx
  exact D.ldA hx ht hs hm (fun j u hj => by have := hr _ u (hu j u hj); rw [show o + (i * (sz + 1) + j) = o + i * (sz + 1) + j by omega] at this; exact this) hl
theorem D.ldHF {x : Operand} {v u : Value} {n i o sz : Nat} {t : TypeId} {xs : List Value} (hI : Inp h sz n v xs) (hi : i < n) (hx : E.eval x = elemF sz v i o) (ht : plainT P t = true) (hm : LMem (old h) L) (hu : xs[i * sz + o]? = some u) : D P c L E ⟨d, .load t x, ty, pos, af, g⟩ u := by
  obtain ⟨b, o', cap, rfl, hr⟩ := hI.at hi
  have hx' : E.eval x = .pointer (some ⟨b, o' + (i * sz + o), none⟩) := by rw [hx]; simp [elemF, Nat.add_assoc]
  exact D.ld hx' ht hm (hr _ u hu)
end
end Pw
namespace Pw
open Go
theorem Env.yieldedN (E : Env) (ops : Array Oper) (j : Nat) (h : E.yl ops j = none) : Go.yielded ops E.act.tmps j = none := by
  unfold Env.yl at h
  rw [nthDst_eq, Array.getElem?_toList] at h
  unfold Env.ylAt boolOf at h
  unfold Go.yielded
  cases hj : (ops[j]?).bind (·.dst) with
  | none => simp
  | some t =>
    simp only [hj] at h
    have hg := E.act_get t
    cases ht : E.act.tmps[t]? with
    | none => simp [ht]
    | some v =>
      have hu : E.get t = v := by rw [← hg]; simp [Array.getD_eq_getD_getElem?, ht]
      rw [hu] at h
      simp only [Option.bind_some, ht]
      cases v <;> first | rfl | cases h
theorem Env.wantedN {E : Env} {ops : Array Oper} {o : Oper} {j : Nat} {want : Bool} (hg : o.guard = some (j, want)) (h : E.yl ops j = none) :
    Region.wanted o (Go.yielded ops E.act.tmps) = false := by
  simp only [Region.wanted, hg, E.yieldedN ops j h]; rfl
section
variable {P : Program} {r : Rd} {c : Ctx} {Lr L : List Assn} {ns : List Nat} {ops : Array Oper} {Q : Exit → Env → Rd → World → Prop} {fuel : Nat} {listed : Array Bool}
variable {nt : Nat} {l : List (Nat × Value)} {gb : Nat → Value} {rest : List Oper} {ds : Nat} {op : Op} {ty : TypeId} {pos : String} {af : Array Edge} {j : Nat} {want : Bool}
theorem TO.offU (hy : Env.yl ⟨nt, l, gb⟩ ops j = none)
    (k : TO P r c L ops Q rest ⟨nt, (ds, undef) :: l, gb⟩) : TO P r c L ops Q (⟨some ds, op, ty, pos, af, some (j, want)⟩ :: rest) ⟨nt, l, gb⟩ := by
  unfold TO at k ⊢
  exact fun w hw => wpListIn_step fun K hK => by
    rw [if_neg (by show ¬ Region.wanted _ (Go.yielded ops (Env.act ⟨nt, l, gb⟩).tmps) = true; rw [Env.wantedN rfl hy]; simp)]
    exact ⟨fun _ _ => trivial, hK _ _ (by rw [Env.acd_put]; exact k w hw)⟩
/-- Two numbers, not the same. -/
theorem DP.anql2 {E : Env} {d : Option Tmp} {g : Option (Nat × Bool)} {x y : Operand} {f0 f1 : Field} {k0 k1 : IntKind} {a b a' b' : Int} {t t' : TypeId} (hx : E.eval x = .agg #[.int k0 a, .int k1 b]) (hy : E.eval y = .agg #[.int k0 a', .int k1 b']) (ht : P.underlying t = some (.struct #[f0, f1]))
    (hg : P.eqGuardType P.depth t = false) (hs : P.stoodInHeld t = false) (hn0 : f0.name ≠ "_") (hn1 : f1.name ≠ "_") (ho0 : f0.offset = 0) (ho1 : f1.offset = 1) (h0 : P.underlying f0.type = some (.int k0)) (h1 : P.underlying f1.type = some (.int k1)) (hc0 : P.cellsOf f0.type = 0 + 1) (hc1 : P.cellsOf f1.type = 0 + 1) :
    DP P E ⟨d, .binOp .neq t x y t', ty, pos, af, g⟩ (.bool (!decide (a = a' ∧ b = b'))) := by
  unfold DP
  refine ⟨fun _ => by simp, fun w => ?_⟩
  have hp0 : plainT P f0.type = true := by simp [plainT, h0]
  have hp1 : plainT P f1.type = true := by simp [plainT, h1]
  have h : (Op.equalIn (9998 + 1 + 1) t (.agg #[.int k0 a, .int k1 b]) (.agg #[.int k0 a', .int k1 b'])).run P w = .ok (decide (a = a' ∧ b = b')) w := by
    rw [Op.equalIn]
    simp [run_underlying ht, hs, hn0, hn1, ho0, ho1, fun v u => run_part1 (xs := #[v, u]) (o := 0) (v := v) hp0 hc0 rfl, fun v u => run_part1 (xs := #[v, u]) (o := 1) (v := u) hp1 hc1 rfl, run_eqInt _ _ _ h0, run_eqInt _ _ _ h1]
    by_cases e1 : a = a' <;> by_cases e2 : b = b' <;> simp [e1, e2]
  simp only [execOp, hx, hy, eqGuard, binOp, Sem.run_bind, Sem.run_pure]
  rw [show Op.equal t (.agg #[.int k0 a, .int k1 b]) (.agg #[.int k0 a', .int k1 b']) = Op.equalIn (9998 + 1 + 1) t (.agg #[.int k0 a, .int k1 b]) (.agg #[.int k0 a', .int k1 b']) from rfl]
  simp [hg, h]
end
end Pw
namespace Pw
open Go Go.RowKit
section
variable {P : Program}
/-! ### Contracts of the kit's shelf, held so -/
theorem Sat.of_calls {f : FuncId} {args : List Value} {A : List Assn} {B : Value → List Assn → Prop} (h : ∀ (c : Ctx) (R : List Assn) (w : World), SL c (A ++ R) w → Calls P f args.toArray w fun e w' => ∃ v L', e = .returned v ∧ B v L' ∧ SL c (L' ++ R) w') : Sat P f args A B := fun c R w hw =>
  callsIn_wide.2 (h c R w hw)
theorem SL.lt {c : Ctx} {L : List Assn} {w : World} {b : Nat} {o : Obj} (h : SL c L w) (hb : w.heap[b]? = some o) : b < w.heap.size := by
  rcases Nat.lt_or_ge b w.heap.size with h1 | h1
  · exact h1
  · rw [Array.getElem?_eq_none h1] at hb; cases hb
theorem SLh.below {h h' : Array Obj} (hh : ∀ (b : Nat) o, h[b]? = some o → h'[b]? = some o) {L : List Assn} (hl : SLh L fun b => h[b]?) : SLh L fun b => h'[b]? := hl.mono fun b o e => hh b o e
theorem SL.below {c : Ctx} {L : List Assn} {w w' : World} (h : SL c L w) (hb : Below w.heap.size w w') : SL c L w' := by
  have hh : ∀ (b : Nat) o, w.heap[b]? = some o → w'.heap[b]? = some o := fun b o e => by
    have hlt : b < w.heap.size := by
      rcases Nat.lt_or_ge b w.heap.size with h1 | h1
      · exact h1
      · rw [Array.getElem?_eq_none h1] at e; cases e
    rw [hb.block b hlt]
    exact e
  exact ⟨hb.os.trans h.1, hb.tape.trans h.2.1, hb.output.trans h.2.2.1, SLh.below hh h.2.2.2⟩
theorem Sat.of_below {f : FuncId} {args : List Value} {v : Value} (h : ∀ w, Calls P f args.toArray w fun e w' => e = .returned v ∧ Below w.heap.size w w') : Sat P f args [] (fun u L' => u = v ∧ L' = []) :=
  Sat.of_calls fun c R w hw => (h w).mono fun e w' ⟨he, hb⟩ => ⟨v, [], he, ⟨rfl, rfl⟩, hw.below hb⟩
theorem Sat.of_same {f : FuncId} {args : List Value} {v : Value} (h : ∀ w, Calls P f args.toArray w fun e w' => e = .returned v ∧ w' = w) : Sat P f args [] (fun u L' => u = v ∧ L' = []) :=
  Sat.of_calls fun c R w hw => (h w).mono fun e w' ⟨he, hb⟩ => ⟨v, [], he, ⟨rfl, rfl⟩, by rw [hb]; exact hw⟩
theorem Sat.of_drew {f : FuncId} {args : List Value} {v : Value} (h : ∀ w, Calls P f args.toArray w fun e w' => e = .returned v ∧ (w' = w ∨ w' = w.drew)) : Sat P f args [] (fun u L' => u = v ∧ L' = []) :=
  Sat.of_calls fun c R w hw => (h w).mono fun e w' ⟨he, hb⟩ => ⟨v, [], he, ⟨rfl, rfl⟩, by
    rcases hb with hb | hb
    · rw [hb]; exact hw
    · rw [hb]; exact hw⟩
/-- What is held of a row of its own, as the shelf asks it. -/
theorem Sat.of_row {f : FuncId} {args : List Value} {v : Value} {e : TypeId} {b : Nat} {cs : Array Value} {fr : Nat × Nat} (h : ∀ w : World, (∀ i u, cs[i]? = some u → w.cell? ⟨b, i, none⟩ = some u) → b < w.heap.size → Calls P f args.toArray w fun e w' => e = .returned v ∧ Below w.heap.size w w') :
    Sat P f args [pt b (.cells cs e fr)] (fun u L' => u = v ∧ L' = [pt b (.cells cs e fr)]) :=
  Sat.of_calls fun c R w hw => by
    have h1 : w.heap[b]? = some (.cells cs e fr) := hw.heap (.head _ _)
    refine (h w (fun i u hu => by simp [World.cell?, h1, hu]) (hw.lt h1)).mono ?_
    rintro e' w' ⟨he, hb⟩
    exact ⟨v, _, he, ⟨rfl, rfl⟩, hw.below hb⟩
/-! ### Equality of structs, of arrays -/
theorem run_eqStr {t : TypeId} (n : Nat) (a b : List UInt8) (ht : P.underlying t = some .string) (w : World) : (Op.equalIn (n + 1) t (str a) (str b)).run P w = .ok (decide (a = b)) w := by
  unfold str
  rw [Op.equalIn]
  have e : (({ data := a.toArray } : ByteArray) == { data := b.toArray }) = decide (a = b) := by
    rw [show (({ data := a.toArray } : ByteArray) == { data := b.toArray }) = (a.toArray == b.toArray) from rfl]
    by_cases h : a = b <;> simp [h]
  simp [run_underlying ht, e]
theorem run_eqI {t : TypeId} {k : IntKind} (n : Nat) (a b : Int) (ht : P.underlying t = some (.int k)) (w : World) : (Op.equalIn (n + 1) t (.int k a) (.int k b)).run P w = .ok (decide (a = b)) w := by
  rw [run_eqInt n a b ht w]
  by_cases h : a = b <;> simp [h]
end
section
variable {P : Program} {E : Env} {d : Option Tmp} {ty : TypeId} {pos : String} {af : Array Edge} {g : Option (Nat × Bool)}
theorem DP.eqOf {x y : Operand} {u v : Array Value} {b : Bool} {t t' : TypeId} (hx : E.eval x = .agg u) (hy : E.eval y = .agg v) (hg : P.eqGuardType P.depth t = false) (h : ∀ w, (Op.equalIn (9998 + 1 + 1) t (.agg u) (.agg v)).run P w = .ok b w) : DP P E ⟨d, .binOp .eql t x y t', ty, pos, af, g⟩ (.bool b) := by
  unfold DP
  refine ⟨fun _ => by simp, fun w => ?_⟩
  simp only [execOp, hx, hy, eqGuard, binOp, Sem.run_bind, Sem.run_pure]
  rw [show Op.equal t (.agg u) (.agg v) = Op.equalIn (9998 + 1 + 1) t (.agg u) (.agg v) from rfl]
  simp [hg, h]
theorem DP.neOf {x y : Operand} {u v : Array Value} {b : Bool} {t t' : TypeId} (hx : E.eval x = .agg u) (hy : E.eval y = .agg v) (hg : P.eqGuardType P.depth t = false) (h : ∀ w, (Op.equalIn (9998 + 1 + 1) t (.agg u) (.agg v)).run P w = .ok b w) : DP P E ⟨d, .binOp .neq t x y t', ty, pos, af, g⟩ (.bool (!b)) := by
  unfold DP
  refine ⟨fun _ => by simp, fun w => ?_⟩
  simp only [execOp, hx, hy, eqGuard, binOp, Sem.run_bind, Sem.run_pure]
  rw [show Op.equal t (.agg u) (.agg v) = Op.equalIn (9998 + 1 + 1) t (.agg u) (.agg v) from rfl]
  simp [hg, h]
theorem eqS3 {t : TypeId} {f0 f1 f2 : Field} {a0 a1 a2 c0 c1 c2 : Value} {b0 b1 b2 : Bool} (ht : P.underlying t = some (.struct #[f0, f1, f2])) (hs : P.stoodInHeld t = false)
    (hn0 : f0.name ≠ "_") (hn1 : f1.name ≠ "_") (hn2 : f2.name ≠ "_") (ho0 : f0.offset = 0) (ho1 : f1.offset = 1) (ho2 : f2.offset = 2) (p0 : plainT P f0.type = true) (p1 : plainT P f1.type = true) (p2 : plainT P f2.type = true)
    (z0 : P.cellsOf f0.type = 0 + 1) (z1 : P.cellsOf f1.type = 0 + 1) (z2 : P.cellsOf f2.type = 0 + 1)
    (e0 : ∀ n w, (Op.equalIn (n + 1) f0.type a0 c0).run P w = .ok b0 w) (e1 : ∀ n w, (Op.equalIn (n + 1) f1.type a1 c1).run P w = .ok b1 w) (e2 : ∀ n w, (Op.equalIn (n + 1) f2.type a2 c2).run P w = .ok b2 w) (w : World) :
    (Op.equalIn (9998 + 1 + 1) t (.agg #[a0, a1, a2]) (.agg #[c0, c1, c2])).run P w = .ok (b0 && b1 && b2) w := by
  rw [Op.equalIn]
  simp [run_underlying ht, hs, hn0, hn1, hn2, ho0, ho1, ho2, fun v u x => run_part1 (xs := #[v, u, x]) (o := 0) (v := v) p0 z0 rfl, fun v u x => run_part1 (xs := #[v, u, x]) (o := 1) (v := u) p1 z1 rfl, fun v u x => run_part1 (xs := #[v, u, x]) (o := 2) (v := x) p2 z2 rfl, e0, e1, e2]
  cases b0 <;> cases b1 <;> cases b2 <;> simp
theorem eqS5 {t : TypeId} {f0 f1 f2 f3 f4 : Field} {a0 a1 a2 a3 a4 c0 c1 c2 c3 c4 : Value} {b0 b1 b2 b3 b4 : Bool} (ht : P.underlying t = some (.struct #[f0, f1, f2, f3, f4])) (hs : P.stoodInHeld t = false)
    (hn0 : f0.name ≠ "_") (hn1 : f1.name ≠ "_") (hn2 : f2.name ≠ "_") (hn3 : f3.name ≠ "_") (hn4 : f4.name ≠ "_") (ho0 : f0.offset = 0) (ho1 : f1.offset = 1) (ho2 : f2.offset = 2) (ho3 : f3.offset = 3) (ho4 : f4.offset = 4)
    (p0 : plainT P f0.type = true) (p1 : plainT P f1.type = true) (p2 : plainT P f2.type = true) (p3 : plainT P f3.type = true) (p4 : plainT P f4.type = true)
    (z0 : P.cellsOf f0.type = 0 + 1) (z1 : P.cellsOf f1.type = 0 + 1) (z2 : P.cellsOf f2.type = 0 + 1) (z3 : P.cellsOf f3.type = 0 + 1) (z4 : P.cellsOf f4.type = 0 + 1)
    (e0 : ∀ n w, (Op.equalIn (n + 1) f0.type a0 c0).run P w = .ok b0 w) (e1 : ∀ n w, (Op.equalIn (n + 1) f1.type a1 c1).run P w = .ok b1 w) (e2 : ∀ n w, (Op.equalIn (n + 1) f2.type a2 c2).run P w = .ok b2 w) (e3 : ∀ n w, (Op.equalIn (n + 1) f3.type a3 c3).run P w = .ok b3 w) (e4 : ∀ n w, (Op.equalIn (n + 1) f4.type a4 c4).run P w = .ok b4 w) (w : World) :
    (Op.equalIn (9998 + 1 + 1) t (.agg #[a0, a1, a2, a3, a4]) (.agg #[c0, c1, c2, c3, c4])).run P w = .ok (b0 && b1 && b2 && b3 && b4) w := by
  rw [Op.equalIn]
  simp [run_underlying ht, hs, hn0, hn1, hn2, hn3, hn4, ho0, ho1, ho2, ho3, ho4, fun v u x y z => run_part1 (xs := #[v, u, x, y, z]) (o := 0) (v := v) p0 z0 rfl, fun v u x y z => run_part1 (xs := #[v, u, x, y, z]) (o := 1) (v := u) p1 z1 rfl, fun v u x y z => run_part1 (xs := #[v, u, x, y, z]) (o := 2) (v := x) p2 z2 rfl, fun v u x y z => run_part1 (xs := #[v, u, x, y, z]) (o := 3) (v := y) p3 z3 rfl, fun v u x y z => run_part1 (xs := #[v, u, x, y, z]) (o := 4) (v := z) p4 z4 rfl, e0, e1, e2, e3, e4]
  cases b0 <;> cases b1 <;> cases b2 <;> cases b3 <;> cases b4 <;> simp
end
end Pw
namespace Pw
open Go
section
variable {P : Program} {r : Rd} {c : Ctx} {L R : List Assn} {E : Env} {Q : Exit → Env → Rd → World → Prop} {e : TypeId} {sz n : Nat} {v : Value} {xs : List Value}
/-- A slice of some elements has an array. -/
theorem sl_at {f : Frag} (hf : sl e sz v n xs f) (hn : 0 < n) : ∃ b k, v = .slice (some ⟨b, 0, none⟩) n (n + k) := by
  rcases hf with ⟨_, rfl, _⟩ | ⟨b, k, rest, hv, _, _, _⟩
  · omega
  · exact ⟨b, k, hv⟩
theorem Sat.sl_at {f : FuncId} {args : List Value} {A : List Assn} {B : Value → List Assn → Prop} (hm : LMem (sl e sz v n xs) A) (hn : 0 < n) (k : (∃ b k, v = .slice (some ⟨b, 0, none⟩) n (n + k)) → Sat P f args A B) : Sat P f args A B :=
  Sat.pure hm (fun _ hf => Pw.sl_at hf hn) k
theorem T.open_slC {b k : Nat} {code : Code} (hd : Del (sl e sz (.slice (some ⟨b, 0, none⟩) n (n + k)) n xs) L R) (h : ∀ rest : List Value, xs.length = n * sz → rest.length = k * sz → T P r c (row e b (xs ++ rest) :: R) code Q E) : T P r c L code Q E := by
  unfold T at h ⊢
  intro w hw
  obtain ⟨e1, e2, e3, f1, f2, hd', h1, h2, hsl, hl⟩ := hw.perm hd.perm
  rcases hsl with ⟨hv, _, _⟩ | ⟨b', k', rest, hv, hx, hr, hrow⟩
  · cases hv
  · simp only [Value.slice.injEq, Option.some.injEq, Addr.mk.injEq] at hv
    obtain ⟨⟨rfl, _, _⟩, _, hk⟩ := hv
    obtain rfl : k = k' := by omega
    exact h rest hx hr w ⟨e1, e2, e3, f1, f2, hd', h1, h2, hrow, hl⟩
theorem first_at {α : Type} (q : α → Bool) : ∀ l : List α, (∀ s ∈ l, q s = false) ∨ ∃ i s, i < l.length ∧ l[i]? = some s ∧ q s = true ∧ ∀ t ∈ l.take i, q t = false
  | [] => .inl (by simp)
  | x :: l => by
    cases hx : q x with
    | true => exact .inr ⟨0, x, by simp, rfl, hx, by simp⟩
    | false =>
      rcases first_at q l with h | ⟨i, s, h1, h2, h3, h4⟩
      · exact .inl fun s hs => by
          rcases List.mem_cons.1 hs with rfl | hs
          · exact hx
          · exact h s hs
      · exact .inr ⟨i + 1, s, by simpa using h1, by simpa using h2, h3, fun t ht => by
          rw [List.take_succ_cons] at ht
          rcases List.mem_cons.1 ht with rfl | ht
          · exact hx
          · exact h4 t ht⟩
end
end Pw
/-! ### Equality of any struct of plain fields, of any array of bytes; an array's pointer of a slice -/
namespace Pw
open Go
section
variable {P : Program}
inductive FEq (P : Program) (d : Nat) (us vs : List Value) : List Field → List Bool → Prop
  | nil : FEq P d us vs [] []
  | cons {f : Field} {fs : List Field} {u v : Value} {b : Bool} {bs : List Bool} (hn : f.name ≠ "_") (hu : us[f.offset]? = some u) (hv : vs[f.offset]? = some v) (hp : plainT P f.type = true) (hs : P.cellsOf f.type = 0 + 1)
      (he : ∀ w, (Op.equalIn d f.type u v).run P w = .ok b w) (h : FEq P d us vs fs bs) : FEq P d us vs (f :: fs) (b :: bs)
theorem run_eqFields {d : Nat} {us vs : List Value} {fs : List Field} {bs : List Bool} (h : FEq P d us vs fs bs) (w : World) :
    (forIn fs ((none, ()) : Option Bool × Unit) fun f _ =>
      if f.name ≠ "_" then do
        let a ← part f.type us.toArray f.offset
        let b ← part f.type vs.toArray f.offset
        let r ← Op.equalIn d f.type a b
        if (!r) = true then pure (ForInStep.done (some false, ())) else pure (ForInStep.yield (none, ()))
      else pure (ForInStep.yield (none, ())) : Sem (Option Bool × Unit)).run P w = .ok (if bs.all id then (none, ()) else (some false, ())) w := by
  induction h with
  | nil => simp
  | cons hn hu hv hp hs he h ih =>
    rename_i f fs u v b bs
    simp only [List.forIn_cons]
    rw [if_pos hn]
    simp only [Sem.run_bind, run_part1 hp hs (show us.toArray[f.offset]? = some u by simpa using hu), run_part1 hp hs (show vs.toArray[f.offset]? = some v by simpa using hv), Result.andThen_ok, he]
    cases b
    · simp
    · simp only [Bool.not_true, Bool.false_eq_true, if_false, Sem.run_pure, Result.andThen_ok, ih]
      simp
theorem eqSt {t : TypeId} {fs : Array Field} {us vs : List Value} {bs : List Bool} {n : Nat} (ht : P.underlying t = some (.struct fs)) (hs : P.stoodInHeld t = false) (h : FEq P n us vs fs.toList bs) (w : World) :
    (Op.equalIn (n + 1) t (.agg us.toArray) (.agg vs.toArray)).run P w = .ok (bs.all id) w := by
  rw [Op.equalIn]
  simp only [Sem.run_bind, run_underlying ht, Result.andThen_ok, run_program, hs, Bool.false_eq_true, if_false]
  rw [← Array.forIn_toList, run_eqFields h w]
  cases bs.all id <;> simp
theorem run_eqBytes {e : TypeId} {n : Nat} (he : P.underlying e = some (.int .u8)) (hp : plainT P e = true) (hz : P.cellsOf e = 0 + 1) (us vs : List UInt8) : ∀ (m k : Nat), us.length = k + m → vs.length = k + m → ∀ w : World,
    (forIn (List.range' k m) ((none, ()) : Option Bool × Unit) fun i _ => do
        let a ← part e (us.map byteV).toArray (i * 1)
        let b ← part e (vs.map byteV).toArray (i * 1)
        let r ← Op.equalIn (n + 1) e a b
        if (!r) = true then pure (ForInStep.done (some false, ())) else pure (ForInStep.yield (none, ())) : Sem (Option Bool × Unit)).run P w = .ok (if us.drop k = vs.drop k then (none, ()) else (some false, ())) w
  | 0, k, hu, hv, w => by rw [List.drop_of_length_le (by omega), List.drop_of_length_le (by omega)]; simp
  | m + 1, k, hu, hv, w => by
    obtain ⟨a, ha⟩ := get_some (l := us) (i := k) (by omega)
    obtain ⟨b, hb⟩ := get_some (l := vs) (i := k) (by omega)
    have ha2 : us.drop k = a :: us.drop (k + 1) := by
      rw [List.drop_eq_getElem_cons (by omega)]; congr 1; rw [List.getElem?_eq_getElem (by omega)] at ha; exact Option.some.inj ha
    have hb2 : vs.drop k = b :: vs.drop (k + 1) := by
      rw [List.drop_eq_getElem_cons (by omega)]; congr 1; rw [List.getElem?_eq_getElem (by omega)] at hb; exact Option.some.inj hb
    rw [List.range'_succ]
    simp only [List.forIn_cons]
    simp only [Sem.run_bind, run_part1 hp hz (show (us.map byteV).toArray[k * 1]? = some (byteV a) by simp [ha]), run_part1 hp hz (show (vs.map byteV).toArray[k * 1]? = some (byteV b) by simp [hb]), Result.andThen_ok, byteV, run_eqI n _ _ he]
    rw [ha2, hb2]
    by_cases hab : a = b
    · subst hab
      have := run_eqBytes (n := n) he hp hz us vs m (k + 1) (by omega) (by omega) w
      simp only [decide_true, Bool.not_true, Bool.false_eq_true, if_false, Sem.run_pure, Result.andThen_ok, this]
      simp
    · have hne : ¬ (((a.toNat : Nat) : Int) = ((b.toNat : Nat) : Int)) := fun h => hab (UInt8.toNat_inj.1 (Int.ofNat.inj h))
      simp [hne, hab]
theorem eqBytes {t e : TypeId} {len n : Nat} {us vs : List UInt8} (ht : P.underlying t = some (.array len e)) (he : P.underlying e = some (.int .u8)) (hp : plainT P e = true) (hz : P.cellsOf e = 0 + 1) (hu : us.length = len) (hv : vs.length = len) (w : World) :
    (Op.equalIn (n + 1 + 1) t (.agg (us.map byteV).toArray) (.agg (vs.map byteV).toArray)).run P w = .ok (decide (us = vs)) w := by
  rw [Op.equalIn]
  simp only [Sem.run_bind, run_underlying ht, Result.andThen_ok, run_sizeOf hz]
  rw [Std.Legacy.Range.forIn_eq_forIn_range']
  have := run_eqBytes (n := n) he hp hz us vs len 0 (by omega) (by omega) w
  simp only [List.drop_zero] at this
  simp only [Std.Legacy.Range.size, Nat.sub_zero, Nat.add_sub_cancel, Nat.div_one, Nat.zero_add]
  rw [this]
  by_cases h : us = vs <;> simp [h]
variable {E : Env} {d : Option Tmp} {ty : TypeId} {pos : String} {af : Array Edge} {g : Option (Nat × Bool)}
theorem DP.s2a {x : Operand} {a : Option Addr} {n k len : Nat} {t e : TypeId} (hx : E.eval x = .slice a n k) (ht : P.underlying t = some (.array len e)) (h : len ≤ n) : DP P E ⟨d, .sliceToArrayPointer t x, ty, pos, af, g⟩ (.pointer a) :=
  DP.mk (fun _ => by simp) (fun w => by
    simp [execOp, hx, Instr.arrayAt, run_underlying ht, show ¬ n < len by omega])
end
end Pw
/-! ### Results that are kept in memory -/
namespace Pw
open Go
section
variable {P : Program} {c : Ctx} {L : List Assn} {E : Env}
theorem RV.at {t b o : Nat} {e ty : TypeId} {cs : List Value} {v : Value} (hx : E.get t = .pointer (some ⟨b, o, none⟩)) (ht : plainT P ty = true) (hm : LMem (row e b cs) L) (hv : cs[o]? = some v) :
    ∀ w, SL c L w → (do loadVar ty (← asAddr (E.get t)) : Sem Value).run P w = .ok v w := fun w hw => by
  have hc := hw.reads hm (Reads.row hv)
  simp [hx, asAddr, loadVar, run_isAgg_plain ht, hc]
theorem RV.atA {t b n : Nat} {e ty : TypeId} {cs : List Value} (hx : E.get t = .pointer (some ⟨b, 0, none⟩)) (ht : aggT P ty = true) (hi : P.cellsOf ty = n + 1) (hm : LMem (row e b cs) L) (hn : cs.length = n + 1) :
    ∀ w, SL c L w → (do loadVar ty (← asAddr (E.get t)) : Sem Value).run P w = .ok (.agg cs.toArray) w := fun w hw => by
  have hc := run_loadCells' (P := P) (w := w) (b := b) (o := 0) (vs := cs) (fun i v hv => hw.reads hm (ReadsN.rowAll i v hv))
  rw [hn] at hc
  simp [hx, asAddr, loadVar, run_isAgg_agg ht, run_sizeOf hi, hc]
end
end Pw
/-! ### Fields of fields of what an input holds -/
namespace Pw
open Go
section
variable {P : Program} {c : Ctx} {L : List Assn} {E : Env} {d : Option Tmp} {ty : TypeId} {pos : String} {af : Array Edge} {g : Option (Nat × Bool)} {h : Array Obj}
theorem DP.faHF (fo : Nat) {x : Operand} {v : Value} {n i sz k m o : Nat} {t : TypeId} {fs : Array Field} {f : Field} {xs : List Value} (hI : Inp h sz n v xs) (hi : i < n) (hx : E.eval x = elemF sz v i o) (ht : P.underlying t = some (.struct fs)) (hf : fs[k]? = some f) (hfo : f.offset = fo) (hz : P.cellsOf f.type = m + 1) :
    DP P E ⟨d, .fieldAddr t x k, ty, pos, af, g⟩ (elemF sz v i (o + fo)) := by
  obtain ⟨b, o', cap, rfl, _⟩ := hI.at hi
  have := DP.fa (P := P) (d := d) (ty := ty) (pos := pos) (af := af) (g := g) fo hx ht hf hfo hz
  simp only [elemF] at this ⊢
  rw [← Nat.add_assoc]
  exact this
theorem D.faOF (fo : Nat) {x : Operand} {v : Value} {n i sz k m o : Nat} {t e : TypeId} {fs : Array Field} {f : Field} {xs : List Value} (hx : E.eval x = elemF sz v i o) (ht : P.underlying t = some (.struct fs)) (hf : fs[k]? = some f) (hfo : f.offset = fo) (hz : P.cellsOf f.type = m + 1) (hm : LMem (sl e sz v n xs) L) (hi : i < n) :
    D P c L E ⟨d, .fieldAddr t x k, ty, pos, af, g⟩ (elemF sz v i (o + fo)) :=
  D.open_sl hm hi (fun b k' rest w hv _ _ _ => by
    subst hv
    have := (DP.fa (P := P) (d := d) (ty := ty) (pos := pos) (af := af) (g := g) fo hx ht hf hfo hz).2 w
    simp only [elemF] at this ⊢
    rw [← Nat.add_assoc]
    exact this) (fun _ => by simp)
end
end Pw
/-! ### Maps by numbers -/
namespace Pw
open Go Go.MapKept
/-- Where a number stands, and what is kept of it. -/
def posI : List (Nat × Value) → Nat → Option (Nat × Value)
  | [], _ => none
  | (m, v) :: l, n => if m = n then some (0, v) else (posI l n).map fun x => (x.1 + 1, x.2)
def atI (l : List (Nat × Value)) (n : Nat) : Option Value := (posI l n).map (·.2)
def putI (l : List (Nat × Value)) (n : Nat) (v : Value) : List (Nat × Value) := match posI l n with | some x => l.set x.1 (n, v) | none => l ++ [(n, v)]
def delI (l : List (Nat × Value)) (n : Nat) : List (Nat × Value) := match posI l n with | some x => l.eraseIdx x.1 | none => l
def kvI (k : IntKind) (es : List MapEntry) (l : List (Nat × Value)) : Prop := es.map (fun e => (e.key, e.val)) = l.map fun p => (.int k (p.1 : Int), p.2)
/-- A map at a place: by numbers of a kind, what it holds, in the order in which it came. -/
def mapI (k : IntKind) (b : Nat) (l : List (Nat × Value)) : Assn := fun f => ∃ es clock, f b = some (.map es clock) ∧ kvI k es.toList l
theorem findNow_int {k k0 : IntKind} : ∀ {es : List MapEntry} {l : List (Nat × Value)} (n i : Nat), kvI k es l → Instr.findNow (.int k0) (.int k (n : Int)) es i = some ((posI l n).map fun x => (i + x.1, x.2))
  | [], [], n, i, _ => rfl
  | e :: es, [], n, i, h => by simp [kvI] at h
  | [], p :: l, n, i, h => by simp [kvI] at h
  | e :: es, (m, v) :: l, n, i, h => by
    simp only [kvI, List.map_cons, List.cons.injEq, Prod.mk.injEq] at h
    obtain ⟨⟨h1, h2⟩, h3⟩ := h
    have ih := findNow_int (k := k) (k0 := k0) n (i + 1) h3
    unfold Instr.findNow posI
    rw [h1]
    simp only [Instr.sameNow, if_true]
    by_cases hmn : m = n
    · subst hmn; simp [h2]
    · have : ((n : Int) == (m : Int)) = false := by simp; omega
      rw [this, ih, if_neg hmn]
      cases posI l n with
      | none => rfl
      | some x => simp; omega
theorem posI_lt {l : List (Nat × Value)} {n : Nat} : ∀ {x : Nat × Value}, posI l n = some x → l[x.1]? = some (n, x.2) := by
  induction l with
  | nil => intro x h; cases h
  | cons p l ih =>
    intro x h
    obtain ⟨m, v⟩ := p
    unfold posI at h
    split at h
    · rename_i hm; subst hm; cases h; rfl
    · cases hp : posI l n with
      | none => rw [hp] at h; cases h
      | some y =>
        rw [hp] at h
        cases h
        exact ih hp
theorem kvI.len {k : IntKind} {es : List MapEntry} {l : List (Nat × Value)} (h : kvI k es l) : es.length = l.length := by
  have := congrArg List.length h; simpa using this
theorem kvI.get {k : IntKind} {es : List MapEntry} {l : List (Nat × Value)} (h : kvI k es l) {i : Nat} {m : Nat} {v : Value} (hl : l[i]? = some (m, v)) : ∃ e, es[i]? = some e ∧ e.key = .int k m ∧ e.val = v := by
  have h1 := congrArg (fun z => z[i]?) h
  simp only [List.getElem?_map, hl, Option.map_some] at h1
  cases he : es[i]? with
  | none => rw [he] at h1; cases h1
  | some e => rw [he] at h1; simp only [Option.map_some, Option.some.injEq, Prod.mk.injEq] at h1; exact ⟨e, rfl, h1.1, h1.2⟩
section
variable {P : Program} {r : Rd} {c : Ctx} {L : List Assn} {E : Env} {d : Option Tmp} {ty : TypeId} {pos : String} {af : Array Edge} {g : Option (Nat × Bool)}
theorem SL.mapI_at {k : IntKind} {b : Nat} {l : List (Nat × Value)} {w : World} (hw : SL c L w) (hm : LMem (mapI k b l) L) : ∃ es clock, w.heap[b]? = some (.map es clock) ∧ kvI k es.toList l := by
  obtain ⟨f1, ⟨es, clock, h1, h2⟩, h3⟩ := SLh.mem hm hw.2.2.2
  exact ⟨es, clock, h3 _ _ h1, h2⟩
theorem D.mkW {o : Oper} {v : Value} (h1 : ∀ d, o.op ≠ .defer d) (h : ∀ w, SL c L w → (execOp E.eval o).run P w = .ok (.value v) w) : D P c L E o v := by unfold D; exact ⟨h1, h⟩
/-- m[n], and whether it is there. -/
theorem D.mlk2 {x y : Operand} {b n : Nat} {k : IntKind} {l : List (Nat × Value)} {t kt et : TypeId} {z : Value} (hx : E.eval x = .map (some b)) (hy : E.eval y = .int k n) (ht : P.underlying t = some (.map kt et)) (hk : P.underlying kt = some (.int k)) (hz : P.zeroOf et = some z) (hm : LMem (mapI k b l) L) :
    D P c L E ⟨d, .lookup t x y true, ty, pos, af, g⟩ (.tuple #[(atI l n).getD z, .bool (atI l n).isSome]) :=
  D.mkW (fun _ => by simp) (fun w hw => by
    obtain ⟨es, clock, hb, hkv⟩ := hw.mapI_at hm
    have hf := run_findKey (P := P) (w := w) hk (findNow_int (k0 := k) n 0 hkv)
    have hc := run_checkKey (P := P) (w := w) (k := .int k n) hk (by simp [IsKey]) es.isEmpty 9999
    simp only [execOp, hx, hy, Instr.lookup, Sem.run_bind, run_underlying ht, Result.andThen_ok, run_getObj_map hb, Sem.run_pure, hc, hf]
    unfold atI
    cases posI l n <;> simp [run_zeroValue hz])
theorem D.mlk {x y : Operand} {b n : Nat} {k : IntKind} {l : List (Nat × Value)} {t kt et : TypeId} {z : Value} (hx : E.eval x = .map (some b)) (hy : E.eval y = .int k n) (ht : P.underlying t = some (.map kt et)) (hk : P.underlying kt = some (.int k)) (hz : P.zeroOf et = some z) (hm : LMem (mapI k b l) L) :
    D P c L E ⟨d, .lookup t x y false, ty, pos, af, g⟩ ((atI l n).getD z) :=
  D.mkW (fun _ => by simp) (fun w hw => by
    obtain ⟨es, clock, hb, hkv⟩ := hw.mapI_at hm
    have hf := run_findKey (P := P) (w := w) hk (findNow_int (k0 := k) n 0 hkv)
    have hc := run_checkKey (P := P) (w := w) (k := .int k n) hk (by simp [IsKey]) es.isEmpty 9999
    simp only [execOp, hx, hy, Instr.lookup, Sem.run_bind, run_underlying ht, Result.andThen_ok, run_getObj_map hb, Sem.run_pure, hc, hf]
    unfold atI
    cases posI l n <;> simp [run_zeroValue hz])
end
end Pw
namespace Pw
attribute [irreducible] T TO TQ DP D N elemP elemF
end Pw

