/- Lemmas for the proofs of this seat: no statement of the seat is claimed here. -/
import Derived.Test.YtcidilijlgaohaaDoorPx3
set_option linter.all false
namespace Pw
open Go
/-! ## The steps of the code -/
class Go1 (G : Prop) (G' : outParam Prop) : Prop where go : G' → G
section
variable {P : Program} {r : Rd} {c : Ctx} {L : List Assn} {Q : Exit → Env → Rd → World → Prop} {E : Env}
instance {x y : Code} : Go1 (T P r c L (.seq x y) Q E) (T P r c L x (thenQ P r y Q) E) := ⟨T.seq⟩
instance {id : Nat} {x : Code} : Go1 (T P r c L (.block id x) Q E) (T P r c L x (blockQ id Q) E) := ⟨T.block⟩
instance : Go1 (T P r c L .skip Q E) (TQ r c L Q .normal E) := ⟨T.skip⟩
instance {l : Nat} : Go1 (T P r c L (.label l) Q E) (TQ r c L Q .normal E) := ⟨T.label⟩
instance {i : Nat} : Go1 (T P r c L (.exit i) Q E) (TQ r c L Q (.exit i) E) := ⟨T.exit⟩
instance : Go1 (T P r c L .ret Q E) (TQ r c L Q .ret E) := ⟨T.ret⟩
instance {id : Nat} {l : List Oper} : Go1 (T P r c L (.region id l.toArray false) Q E) (TO P r c L l.toArray Q l E) := ⟨T.reg⟩
instance {ops : Array Oper} : Go1 (TO P r c L ops Q [] E) (TQ r c L Q .normal E) := ⟨TO.nil⟩
instance {y : Code} : Go1 (TQ r c L (thenQ P r y Q) .normal E) (T P r c L y Q E) := ⟨TQ.nn⟩
instance {y : Code} {i : Nat} : Go1 (TQ r c L (thenQ P r y Q) (.exit i) E) (TQ r c L Q (.exit i) E) := ⟨TQ.ne⟩
instance {y : Code} : Go1 (TQ r c L (thenQ P r y Q) .ret E) (TQ r c L Q .ret E) := ⟨TQ.nr⟩
instance {id : Nat} : Go1 (TQ r c L (blockQ id Q) .normal E) (TQ r c L Q .normal E) := ⟨TQ.bn⟩
instance {id : Nat} : Go1 (TQ r c L (blockQ id Q) (.exit id) E) (TQ r c L Q .normal E) := ⟨TQ.be⟩
instance {id : Nat} : Go1 (TQ r c L (blockQ id Q) .ret E) (TQ r c L Q .ret E) := ⟨TQ.br⟩
instance {S : Type} {n : Nat} {sl : S → List (Nat × Value)} {H : S → List Assn} {I : S → Prop} {μ : S → Nat} {s : S} {i : Nat} : Go1 (TQ r c L (loopQ r c n sl H I μ s Q) (.exit i) E) (TQ r c L Q (.exit i) E) := ⟨TQ.le⟩
instance {S : Type} {n : Nat} {sl : S → List (Nat × Value)} {H : S → List Assn} {I : S → Prop} {μ : S → Nat} {s : S} : Go1 (TQ r c L (loopQ r c n sl H I μ s Q) .ret E) (TQ r c L Q .ret E) := ⟨TQ.lr⟩
instance {S : Type} {n : Nat} {sl : S → List (Nat × Value)} {H : S → List Assn} {I : S → Prop} {i : Nat} : Go1 (TQ r c L (cutQ r c n sl H I Q) (.exit i) E) (TQ r c L Q (.exit i) E) := ⟨TQ.ce⟩
instance {S : Type} {n : Nat} {sl : S → List (Nat × Value)} {H : S → List Assn} {I : S → Prop} : Go1 (TQ r c L (cutQ r c n sl H I Q) .ret E) (TQ r c L Q .ret E) := ⟨TQ.cr⟩
/-- Conditions. -/
theorem T.cB {x : Operand} {a b : Code} {t : Bool} (hc : E.eval x = .bool t) (h : (t = true → T P r c L a Q E) ∧ (t = false → T P r c L b Q E)) : T P r c L (.cond x a b) Q E := T.condB hc h.1 h.2
theorem T.cD {x : Operand} {a b : Code} {p : Prop} {inst : Decidable p} (hc : E.eval x = .bool (@decide p inst)) (h : (p → T P r c L a Q E) ∧ (¬ p → T P r c L b Q E)) : T P r c L (.cond x a b) Q E := T.condD hc h.1 h.2
section
variable {nt : Nat} {l : List (Nat × Value)} {gb : Nat → Value} {ops : Array Oper} {rest : List Oper} {o : Oper} {j t : Nat} {want : Bool}
theorem TO.gS {b : Bool} (hg : o.guard = some (j, want)) (ht : nthDst ops.toList j = some t) (hv : Env.get ⟨nt, l, gb⟩ t = .bool b)
    (h : (b = true → TO P r c L ops Q (o :: rest) ⟨nt, (t, .bool true) :: l, gb⟩) ∧ (b = false → TO P r c L ops Q (o :: rest) ⟨nt, (t, .bool false) :: l, gb⟩)) : TO P r c L ops Q (o :: rest) ⟨nt, l, gb⟩ := TO.gs hg ht hv h.1 h.2
theorem TO.gD {p : Prop} {inst : Decidable p} (hg : o.guard = some (j, want)) (ht : nthDst ops.toList j = some t) (hv : Env.get ⟨nt, l, gb⟩ t = .bool (@decide p inst))
    (h : (p → TO P r c L ops Q (o :: rest) ⟨nt, (t, .bool true) :: l, gb⟩) ∧ (¬ p → TO P r c L ops Q (o :: rest) ⟨nt, (t, .bool false) :: l, gb⟩)) : TO P r c L ops Q (o :: rest) ⟨nt, l, gb⟩ := TO.gd hg ht hv h.1 h.2
end

/-! ### What follows from what, by instances -/
class DelC (A : Assn) (L : List Assn) (R : outParam (List Assn)) : Prop where h : Del A L R
instance (priority := 1100) {A : Assn} {L : List Assn} : DelC A (A :: L) L := ⟨.head _ _⟩
instance {A B : Assn} {L R : List Assn} [h : DelC A L R] : DelC A (B :: L) (B :: R) := ⟨.tail h.h⟩
class ImC (L L' : List Assn) : Prop where h : Imp L L'
instance (priority := 1200) {L : List Assn} : ImC L L := ⟨Imp.refl L⟩
instance (priority := 1100) {L R : List Assn} [h : ImC L R] : ImC L ([] ++ R) := ⟨h.h⟩
instance (priority := 1100) {A : Assn} {L M l R : List Assn} [h1 : DelC A L M] [h2 : ImC M (l ++ R)] : ImC L ((A :: l) ++ R) := ⟨Imp.pull h1.h h2.h⟩
instance (priority := 1050) {A : Assn} {L M R : List Assn} [h1 : DelC A L M] [h2 : ImC M R] : ImC L (A :: R) := ⟨Imp.pull h1.h h2.h⟩
instance {L : List Assn} : ImC L [] := ⟨Imp.nil L⟩
instance (priority := 500) {A : Assn} {L R : List Assn} [h : ImC L R] : ImC (A :: L) R := ⟨Imp.drop h.h⟩
theorem Ent.ic {L' : List Assn} [h : ImC L L'] : Ent c L L' := Ent.imp h.h

/-! ### The end of a function -/
def rvF (E : Env) : List ResultVar → Option (List Value)
  | [] => some []
  | .tmp t :: rs => fo (E.get t) fun v => match rvF E rs with | some vs => some (v :: vs) | none => none
  | .cell _ _ :: _ => none
theorem rvF_ok {E : Env} : ∀ {rs : List ResultVar} {vs : List Value}, rvF E rs = some vs → RV P c L E rs vs
  | [], vs, h => by simp only [rvF, Option.some.injEq] at h; exact h.symm
  | .tmp t :: rs, vs, h => by
    simp only [rvF, fo_eq] at h
    split at h
    · rename_i us h1
      cases h
      exact ⟨rfl, rvF_ok h1⟩
    · cases h
  | .cell _ _ :: _, _, h => by simp [rvF] at h
/-- What is left to show at the end. -/
def Fini (c : Ctx) (L R : List Assn) (B : Value → List Assn → Prop) (u : Value) : Prop := ∃ L', B u L' ∧ Ent c L (L' ++ R)
theorem TQ.fin {fn : Func} {R : List Assn} {B : Value → List Assn → Prop} {rs : List ResultVar} {vs : List Value} (h : Fini c L R B (asResult vs)) (hr : fn.results = rs.toArray := by rfl) (hv : rvF E rs = some vs := by conv => lhs; whnf) : TQ R0 c L (retQ P fn c R B) .ret E := by
  have h1 := rvF_ok (P := P) (c := c) (L := L) hv
  obtain ⟨L', h3, h4⟩ := h
  exact TQ.ret hr h1 h3 h4
theorem TQ.finN {fn : Func} {R : List Assn} {B : Value → List Assn → Prop} {rs : List ResultVar} {vs : List Value} (h : Fini c L R B (asResult vs)) (hr : fn.results = rs.toArray := by rfl) (hv : rvF E rs = some vs := by conv => lhs; whnf) : TQ R0 c L (retQ P fn c R B) .normal E := by
  have h1 := rvF_ok (P := P) (c := c) (L := L) hv
  obtain ⟨L', h3, h4⟩ := h
  exact TQ.end hr h1 h3 h4
theorem Fini.mk {R L' : List Assn} {B : Value → List Assn → Prop} {u : Value} (h : B u L') [he : ImC L (L' ++ R)] : Fini c L R B u := ⟨L', h, Ent.imp he.h⟩
theorem Fini.of {R L' : List Assn} {B : Value → List Assn → Prop} {u : Value} (h : B u L') (he : Imp L (L' ++ R)) : Fini c L R B u := ⟨L', h, Ent.imp he⟩

theorem Fini.one {R : List Assn} {X : Assn} {B : Value → List Assn → Prop} {u : Value} (h : B u [X]) (he : Imp L (X :: R)) : Fini c L R B u := ⟨[X], h, Ent.imp he⟩
/-- .. packed -/
theorem Fini.sh {R : List Assn} {α : Type} {p : α → Prop} {Ls : α → List Assn} {B : Value → List Assn → Prop} {u : Value} (h : B u [exA p Ls]) (a : α) (hp : p a) [he : ImC L (Ls a ++ R)] : Fini c L R B u := Fini.one h (Imp.shutA a hp he.h)

/-! ### Calls -/
class FnR (P : Program) (f : FuncId) (args : List Value) (L : List Assn) (W : outParam ((Value → List Assn → Prop) → Prop)) : Prop where
  go : ∀ k : Value → List Assn → Prop, W k → ∃ A R B, Sat P f args A B ∧ Pick A L R ∧ ∀ v L', B v L' → k v (L' ++ R)
class Cal (P : Program) (f : FuncId) : Prop where h : ∀ args w, (callFunc f args).run P w = .ok (.enter f args) w
theorem FnR.of {f : FuncId} {args : List Value} {W : (Value → List Assn → Prop) → Prop} (h : ∀ k, W k → ∃ A R B, Sat P f args A B ∧ Pick A L R ∧ ∀ v L', B v L' → k v (L' ++ R)) : FnR P f args L W := ⟨h⟩
class AppL (a b : List Value) (l : outParam (List Value)) : Prop where h : a ++ b = l
instance {b : List Value} : AppL [] b b := ⟨rfl⟩
instance {x : Value} {a b l : List Value} [h : AppL a b l] : AppL (x :: a) b (x :: l) := ⟨by rw [← h.h]; rfl⟩
instance {f : FuncId} {xs ys args as1 as2 : List Value} {W : (Value → List Assn → Prop) → Prop} [hc : Cal P f] [ha : AppL args ys as1] [hb : AppL xs as1 as2] [h : FnR P f as2 L W] : St P c L (.call (.func (.func f) xs.toArray ys.toArray) args) W :=
  ⟨fun r E d op ty pos af g hs k hk => by
    cases hs with | call e1 e2 =>
    obtain ⟨A, R, B, h1, h2, h3⟩ := h.go k hk
    rw [← hb.h, ← ha.h, ← List.append_assoc] at h1
    exact (N.call e1 h1 hc.h e2 h2).imp fun v L' hq => by obtain ⟨L1, h4, h5⟩ := hq; rw [← h5]; exact h3 v L1 h4⟩
instance (priority := 1100) {f : FuncId} {args : List Value} {W : (Value → List Assn → Prop) → Prop} [hc : Cal P f] [h : FnR P f args L W] : St P c L (.call (.func (.func f) #[] #[]) args) W :=
  ⟨fun r E d op ty pos af g hs k hk => by
    cases hs with | call e1 e2 =>
    obtain ⟨A, R, B, h1, h2, h3⟩ := h.go k hk
    exact (N.call (first := []) (cap := []) e1 (by simpa using h1) hc.h e2 h2).imp fun v L' hq => by obtain ⟨L1, h4, h5⟩ := hq; rw [← h5]; exact h3 v L1 h4⟩

/-! ### Loops: what is kept besides -/
theorem T.lp (id : Nat) {n : Nat} {l0 : List (Nat × Value)} {g0 : Nat → Value} {S : Type} {x : Code} (K : List (Nat × Value)) (s0 : S) (sl : S → List (Nat × Value)) (H : S → List Assn) (I : S → Prop) (μ : S → Nat)
    (hK : Env.has ⟨n, l0, g0⟩ K) (hsl : Env.has ⟨n, l0, g0⟩ (sl s0)) (hI : I s0) (hL : Ent c L (H s0))
    (round : ∀ s g, I s → T P r c (H s) x (loopQ r c n (fun s => sl s ++ K) H I μ s (blockQ id Q)) ⟨n, sl s ++ K, g⟩) : T P r c L (.block id (.loop x)) Q ⟨n, l0, g0⟩ := by
  refine T.block (T.loop s0 (fun s => sl s ++ K) H I μ ?_ hI hL round)
  have key : ∀ (l : List (Nat × Value)), Env.has ⟨n, l0, g0⟩ l → Env.has ⟨n, l0, g0⟩ (l ++ K) := by
    intro l
    induction l with
    | nil => exact fun _ => hK
    | cons p l ih => exact fun h => ⟨h.1, ih h.2⟩
  exact key _ hsl
theorem TQ.rd {S : Type} {n : Nat} {sl : S → List (Nat × Value)} {H : S → List Assn} {I : S → Prop} {μ : S → Nat} {s : S} (s' : S)
    (hn : E.n = n) (hsl : E.has (sl s')) (hI : I s') (hμ : μ s' < μ s) (hL : Ent c L (H s')) : TQ r c L (loopQ r c n sl H I μ s Q) .normal E := TQ.round s' hn hsl hI hμ hL

/-! ### A join: a region that yields a truth value -/
def mrgQ (r : Rd) (c : Ctx) (L : List Assn) (n : Nat) (l : List (Nat × Value)) (g : Nat → Value) (D : List Nat) (d : Nat) (b : Bool) : Exit → Env → Rd → World → Prop
  | .normal, E, r', w => r' = r ∧ (∃ new, E = ⟨n, new ++ l, g⟩ ∧ (∀ p ∈ new, p.1 ∈ D) ∧ E.get d = .bool b) ∧ SL c L w
  | _, _, _, _ => False
def disj (D : List Nat) : List (Nat × Value) → Bool
  | [] => true
  | p :: l => !D.elem p.1 && disj D l
theorem look_app (a b : List (Nat × Value)) (t : Nat) (v : Value) : look (a ++ b) t v = look a t (look b t v) := by
  induction a with
  | nil => rfl
  | cons p a ih =>
    obtain ⟨k, u⟩ := p
    simp only [List.cons_append, look, ih]
theorem look_nk {a : List (Nat × Value)} {D : List Nat} (h : ∀ p ∈ a, p.1 ∈ D) {t : Nat} (ht : t ∉ D) (v : Value) : look a t v = v := by
  induction a with
  | nil => rfl
  | cons p a ih =>
    obtain ⟨k, u⟩ := p
    have h1 := h (k, u) (by simp)
    have hb : Nat.beq k t = false := by
      cases hh : Nat.beq k t with
      | false => rfl
      | true => exact absurd (Nat.eq_of_beq_eq_true hh ▸ h1) ht
    simp only [look, hb, cond_false]
    exact ih fun p hp => h p (by simp [hp])
theorem disj_nk {D : List Nat} : ∀ {l : List (Nat × Value)}, disj D l = true → ∀ {t : Nat}, t ∈ D → ∀ v, look l t v = v
  | [], _, _, _, _ => rfl
  | (k, u) :: l, h, t, ht, v => by
    simp only [disj, Bool.and_eq_true, Bool.not_eq_true'] at h
    have hb : Nat.beq k t = false := by
      cases hh : Nat.beq k t with
      | false => rfl
      | true =>
        have e := Nat.eq_of_beq_eq_true hh
        subst e
        have : D.elem k = true := by simpa using ht
        rw [this] at h; cases h.1
    simp only [look, hb, cond_false]
    exact disj_nk h.2 ht v
theorem T.mrg (id : Nat) (d : Nat) (p : Prop) [inst : Decidable p] (D : List Nat) {dr : Bool} {ops : Array Oper} {y : Code} {n : Nat} {l : List (Nat × Value)} {g : Nat → Value}
    (h1 : T P r c L (.region id ops dr) (mrgQ r c L n l g D d (decide p)) ⟨n, l, g⟩)
    (h2 : ∀ g', T P r c L y Q ⟨n, (d, .bool (decide p)) :: l, g'⟩) (hd : disj D l = true := by rfl) (hdD : D.elem d = true := by rfl) (hdn : Nat.ble n d = false := by rfl) : T P r c L (.seq (.region id ops dr) y) Q ⟨n, l, g⟩ := by
  refine T.seq ?_
  unfold T at *
  intro w hw
  refine wpIn_mono (h1 w hw) ?_
  rintro e a w' ⟨E', r', rfl, hq⟩
  cases e with
  | normal =>
    obtain ⟨rfl, ⟨new, rfl, hn, hg⟩, hw'⟩ := hq
    refine ⟨⟨n, (d, .bool (decide p)) :: l, fun t => look new t (g t)⟩, r', ?_, h2 _ w' hw'⟩
    refine Env.acd_congr ?_ _
    unfold Env.act
    congr 1
    apply Array.ext
    · simp
    · intro i k1 k2
      simp only [Array.size_ofFn] at k1
      simp only [Array.getElem_ofFn, look_app, look]
      cases hh : Nat.beq d i with
      | true =>
        have e := Nat.eq_of_beq_eq_true hh
        subst e
        simp only [Env.get, hdn, cond_false, look_app] at hg
        simpa using hg
      | false =>
        simp only [cond_false]
        by_cases hi : i ∈ D
        · rw [disj_nk hd hi, disj_nk hd hi]
        · rw [look_nk hn hi, look_nk hn hi]
  | _ => exact hq.elim
theorem TQ.mg {n d : Nat} {l : List (Nat × Value)} {g : Nat → Value} {D : List Nat} {p : Prop} {inst : Decidable p} {L' : List Assn} (new : List (Nat × Value)) (b : Bool) (hE : E = ⟨n, new ++ l, g⟩) (hn : new.all (fun p => D.elem p.1) = true) (hb : E.get d = .bool b) (hp : @decide p inst = b) (hL : Ent c L L') : TQ r c L (mrgQ r c L' n l g D d (@decide p inst)) .normal E := by
  unfold TQ
  intro w hw
  refine ⟨rfl, ⟨new, hE, fun q hq => ?_, by rw [hb, hp]⟩, hL w hw⟩
  have := List.all_eq_true.1 hn q hq
  simpa using this
end
attribute [irreducible] Fini
end Pw
