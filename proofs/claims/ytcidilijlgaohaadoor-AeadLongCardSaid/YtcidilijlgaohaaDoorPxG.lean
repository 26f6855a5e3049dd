/- Lemmas for the proofs of this seat: no statement of the seat is claimed here. -/
import Derived.Test.YtcidilijlgaohaaDoorPxF
set_option linter.all false
namespace Pw
open Go
section
variable {P : Program} {r : Rd} {c : Ctx} {L R : List Assn} {Q : Exit → Env → Rd → World → Prop} {E : Env}
/-- A cut behind a block, at one state: what it is is found at its end. -/
theorem T.cutx (id : Nat) {n : Nat} {l0 : List (Nat × Value)} {g0 : Nat → Value} {S : Type} {x y : Code} (K : List (Nat × Value)) (s0 : S) (sl : S → List (Nat × Value)) (H : S → List Assn) {s : S} [hp : PickC (H s0) L R]
    (h : T P r c (appR (H s0) R) (.block id x) (cutQ r c n (fun s => sl s ++ K) (fun s => appR (H s) R) (fun t => t = s) Q) ⟨n, l0, g0⟩) (k : ∀ g, T P r c (appR (H s) R) y Q ⟨n, sl s ++ K, g⟩)
    (hK : Env.has ⟨n, l0, g0⟩ K := by repeat' first | exact trivial | refine ⟨?_, ?_⟩ | (conv => lhs; whnf)) : T P r c L (.block id x) (thenQ P r y Q) ⟨n, l0, g0⟩ :=
  T.ent (by rw [appR_eq]; exact Ent.perm hp.h.perm) (T.cutt id (fun s => sl s ++ K) (fun s => appR (H s) R) (fun t => t = s) h (fun t g ht => by subst ht; exact k g))
def codeBlk : Nat → Code → Option Code
  | i, .seq a b => match codeBlk i a with
    | some c => some c
    | none => codeBlk i b
  | i, .block j x => match Nat.beq j i with
    | true => some (.block j x)
    | false => codeBlk i x
  | i, .cond _ a b => match codeBlk i a with
    | some c => some c
    | none => codeBlk i b
  | i, .loop x => codeBlk i x
  | i, .scope x => codeBlk i x
  | i, .rangeFunc _ _ a b => match codeBlk i a with
    | some c => some c
    | none => codeBlk i b
  | _, _ => none
/-- A block of a function. -/
def blkOf (f : Func) (i : Nat) : Code := match f.body with
  | some x => match codeBlk i x with
    | some y => y
    | none => .skip
  | none => .skip
theorem T.code {x y : Code} (h : T P r c L y Q E) (e : x = y := by conv => lhs; whnf) : T P r c L x Q E := e ▸ h
/-- Guards: quick to fail. -/
theorem T.atR (id : Nat) {ops : Array Oper} {dr : Bool} (h : T P r c L (.region id ops dr) Q E) : T P r c L (.region id ops dr) Q E := h
theorem T.atB (id : Nat) {x : Code} (h : T P r c L (.block id x) Q E) : T P r c L (.block id x) Q E := h
theorem TQ.atC {n : Nat} {S : Type} {sl : S → List (Nat × Value)} {H : S → List Assn} {I : S → Prop} (h : TQ r c L (cutQ r c n sl H I Q) .normal E) : TQ r c L (cutQ r c n sl H I Q) .normal E := h
theorem T.cutg {n : Nat} {l0 : List (Nat × Value)} {g0 : Nat → Value} {S : Type} {x y : Code} (sl : S → List (Nat × Value)) (H : S → List Assn) (I : S → Prop)
    (h : T P r c L x (cutQ r c n sl H I Q) ⟨n, l0, g0⟩) (k : ∀ s g, I s → T P r c (H s) y Q ⟨n, sl s, g⟩) : T P r c L x (thenQ P r y Q) ⟨n, l0, g0⟩ := by
  unfold T at *
  intro w hw
  refine wpIn_mono (h w hw) ?_
  rintro e a w' ⟨E', r', rfl, hq⟩
  cases e with
  | normal =>
    obtain ⟨rfl, s, en, hh, hI, hw'⟩ := hq
    refine ⟨_, _, Env.acd_congr (E'.act_has (sl s) hh) _, ?_⟩
    rw [en]
    exact k s _ hI w' hw'
  | _ => exact ⟨E', r', rfl, hq⟩
/-- A cut behind a region: what it leaves is a new name, with its equation. -/
theorem T.cutr (id : Nat) {n : Nat} {l0 : List (Nat × Value)} {g0 : Nat → Value} {S : Type} {ops : Array Oper} {dr : Bool} {y : Code} (K : List (Nat × Value)) (s0 : S) (sl : S → List (Nat × Value)) (H : S → List Assn) {s : S} [hp : PickC (H s0) L R]
    (hK : Env.has ⟨n, l0, g0⟩ K)
    (h : T P r c (appR (H s0) R) (.region id ops dr) (cutQ r c n (fun s => sl s ++ K) (fun s => appR (H s) R) (fun t => t = s) Q) ⟨n, l0, g0⟩) (k : ∀ t g, t = s → T P r c (appR (H t) R) y Q ⟨n, sl t ++ K, g⟩) : T P r c L (.region id ops dr) (thenQ P r y Q) ⟨n, l0, g0⟩ :=
  T.ent (by rw [appR_eq]; exact Ent.perm hp.h.perm) (T.cutg (fun s => sl s ++ K) (fun s => appR (H s) R) (fun t => t = s) h k)
theorem T.cutk (id : Nat) {n : Nat} {l0 : List (Nat × Value)} {g0 : Nat → Value} {S : Type} {x y : Code} (K : List (Nat × Value)) (s0 : S) (sl : S → List (Nat × Value)) (H : S → List Assn) {s : S} [hp : PickC (H s0) L R]
    (hK : Env.has ⟨n, l0, g0⟩ K)
    (h : T P r c (appR (H s0) R) (.block id x) (cutQ r c n (fun s => sl s ++ K) (fun s => appR (H s) R) (fun t => t = s) Q) ⟨n, l0, g0⟩) (k : ∀ t g, t = s → T P r c (appR (H t) R) y Q ⟨n, sl t ++ K, g⟩) : T P r c L (.block id x) (thenQ P r y Q) ⟨n, l0, g0⟩ :=
  T.ent (by rw [appR_eq]; exact Ent.perm hp.h.perm) (T.cutg (fun s => sl s ++ K) (fun s => appR (H s) R) (fun t => t = s) h k)
theorem T.norm {n : Nat} {l0 K : List (Nat × Value)} {g0 : Nat → Value} {x : Code} (hK : Env.has ⟨n, l0, g0⟩ K) (h : ∀ g, T P r c L x Q ⟨n, K, g⟩) : T P r c L x Q ⟨n, l0, g0⟩ := by
  have h1 := h (Env.get ⟨n, l0, g0⟩)
  unfold T at *
  intro w hw
  rw [Env.acd_congr (Env.act_has _ K hK) r]
  exact h1 w hw
/-- A block that has a lemma of its own. -/
theorem T.useB (id : Nat) {n : Nat} {l0 K : List (Nat × Value)} {g0 : Nat → Value} {S : Type} {x x' y : Code} {H : S → List Assn} {I : S → Prop} {A : Assn} [hd : DelC A L R] (h : ∀ g, T P r c (A :: R) x' (cutQ r c n (fun _ => K) H I Q) ⟨n, K, g⟩) (k : ∀ s g, I s → T P r c (H s) y Q ⟨n, K, g⟩)
    (hK : Env.has ⟨n, l0, g0⟩ K := by repeat' first | exact trivial | refine ⟨?_, ?_⟩ | (conv => lhs; whnf)) (e : .block id x = x' := by conv => rhs; whnf) : T P r c L (.block id x) (thenQ P r y Q) ⟨n, l0, g0⟩ :=
  T.ent (Ent.perm hd.h.perm) (T.norm hK fun g => T.cutg (fun _ => K) H I (e ▸ h g) k)
theorem flat_sub {α : Type} [Inhabited α] {f : α → List Value} {k : Nat} (hf : ∀ x, (f x).length = k) {l : List α} {i : Nat} (hi : i < l.length) : ((l.flatMap f).take (i * k + k)).drop (i * k) = f (gt l i) := by
  apply List.ext_getElem?
  intro j
  rw [List.getElem?_drop, List.getElem?_take]
  by_cases hj : j < k
  · rw [if_pos (by omega)]
    have h1 : j < (f (gt l i)).length := by rw [hf]; exact hj
    rw [List.getElem?_eq_getElem h1]
    exact flat_elem hf (gt_get hi) j _ (List.getElem?_eq_getElem h1)
  · rw [if_neg (by omega), List.getElem?_eq_none (by rw [hf]; omega)]
instance {α : Type} [Inhabited α] {f : α → List Value} {l : List α} {t e : TypeId} {k : IntKind} {x : Int} {i len n : Nat} [ht : Und P t (.array len e)] [hp : Ag P e] [hz : Sz P e n] [hf : FLen f (n + 1)] [hx : Nn x i] : Pu P (.index t (.agg (l.flatMap f).toArray) (.int k x)) (fun q => Vc (i < len ∧ i < l.length) (q (.agg (f (gt l i)).toArray))) :=
  ⟨fun E d op ty pos af g hs q hq => by
    cases hs with | index e1 e2 =>
    rw [hx.h] at e2
    have h1 := DP.ixaA (d := d) (ty := ty) (pos := pos) (af := af) (g := g) e1 e2 ht.h hp.h hz.h hq.l.1
    refine ⟨_, DP.to h1 ?_, hq.r⟩
    rw [← flat_sub hf.h hq.l.2]
    simp [List.drop_take]⟩
end
end Pw
