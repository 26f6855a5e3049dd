/- Lemmas for the proofs of this seat: no statement of the seat is claimed here. -/
import Derived.LoopNIn
import Derived.Test.YtcidilijlgaohaaDoorPxC
set_option linter.all false
namespace Pw
open Go
abbrev vU64 (n : Nat) : Value := .int .u64 (n : Int)
abbrev vU32 (n : Nat) : Value := .int .u32 (n : Int)
abbrev vU8 (n : Nat) : Value := .int .u8 (n : Int)
abbrev vI (n : Nat) : Value := .int .i64 (n : Int)
/-- One list behind another: seen through. -/
@[reducible] def appR : List Assn → List Assn → List Assn
  | [], R => R
  | A :: l, R => A :: appR l R
theorem appR_eq : ∀ l R : List Assn, appR l R = l ++ R
  | [], _ => rfl
  | A :: l, R => by rw [appR, appR_eq l R]; rfl
class PickC (As L : List Assn) (R : outParam (List Assn)) : Prop where h : Pick As L R
instance {L : List Assn} : PickC [] L L := ⟨.nil L⟩
instance {A : Assn} {As L M R : List Assn} [h1 : DelC A L M] [h2 : PickC As M R] : PickC (A :: As) L R := ⟨.cons h1.h h2.h⟩
section
variable {P : Program} {r : Rd} {c : Ctx} {L : List Assn} {Q : Exit → Env → Rd → World → Prop} {E : Env}
/-- A loop: what is kept besides is found. -/
theorem T.lpa (id : Nat) {n : Nat} {l0 : List (Nat × Value)} {g0 : Nat → Value} {S : Type} {x : Code} (K : List (Nat × Value)) (s0 : S) (sl : S → List (Nat × Value)) (H : S → List Assn) (I : S → Prop) (μ : S → Nat) {R : List Assn} [hp : PickC (H s0) L R]
    (hI : I s0) (round : ∀ s g, I s → T P r c (appR (H s) R) x (loopQ r c n (fun s => sl s ++ K) (fun s => appR (H s) R) I μ s (blockQ id Q)) ⟨n, sl s ++ K, g⟩)
    (hK : Env.has ⟨n, l0, g0⟩ K := by repeat' first | exact trivial | refine ⟨?_, ?_⟩ | (conv => lhs; whnf)) (hsl : Env.has ⟨n, l0, g0⟩ (sl s0) := by repeat' first | exact trivial | refine ⟨?_, ?_⟩ | rfl) : T P r c L (.block id (.loop x)) Q ⟨n, l0, g0⟩ :=
  T.lp id K s0 sl (fun s => appR (H s) R) I μ hK hsl hI (by rw [appR_eq]; exact Ent.perm hp.h.perm) round
theorem TQ.rda {S : Type} {n : Nat} {sl : S → List (Nat × Value)} {H : S → List Assn} {I : S → Prop} {μ : S → Nat} {s : S} (s' : S) [hL : ImC L (H s')]
    (hI : I s') (hμ : μ s' < μ s) (hn : E.n = n := by rfl) (hsl : E.has (sl s') := by repeat' first | exact trivial | refine ⟨?_, ?_⟩ | rfl) : TQ r c L (loopQ r c n sl H I μ s Q) .normal E := TQ.rd s' hn hsl hI hμ (Ent.imp hL.h)
/-- A cut behind a block. -/
theorem T.cutb (id : Nat) {n : Nat} {l0 : List (Nat × Value)} {g0 : Nat → Value} {S : Type} {x y : Code} (sl : S → List (Nat × Value)) (H : S → List Assn) (I : S → Prop)
    (h : T P r c L (.block id x) (cutQ r c n sl H I Q) ⟨n, l0, g0⟩) (k : ∀ s g, I s → T P r c (H s) y Q ⟨n, sl s, g⟩) : T P r c L (.seq (.block id x) y) Q ⟨n, l0, g0⟩ := T.cut sl H I h k
theorem T.cutt (id : Nat) {n : Nat} {l0 : List (Nat × Value)} {g0 : Nat → Value} {S : Type} {x y : Code} (sl : S → List (Nat × Value)) (H : S → List Assn) (I : S → Prop)
    (h : T P r c L (.block id x) (cutQ r c n sl H I Q) ⟨n, l0, g0⟩) (k : ∀ s g, I s → T P r c (H s) y Q ⟨n, sl s, g⟩) : T P r c L (.block id x) (thenQ P r y Q) ⟨n, l0, g0⟩ := by
  unfold T at *
  intro w hw
  refine wpIn_mono (h w hw) ?_
  rintro e a w' ⟨E', r', rfl, hq⟩
  cases e with
  | normal =>
    obtain ⟨rfl, s, en, hh, hI, hw'⟩ := hq
    refine ⟨_, _, Env.acd_congr (E'.act_has (sl s) hh) _, ?_⟩
    rw [en]
    exact k s _ hI w' hw'
  | _ => exact ⟨E', r', rfl, hq⟩
theorem TQ.cna {S : Type} {n : Nat} {sl : S → List (Nat × Value)} {H : S → List Assn} {I : S → Prop} (s : S) [hL : ImC L (H s)] (hI : I s) (hn : E.n = n := by rfl) (hsl : E.has (sl s) := by repeat' first | exact trivial | refine ⟨?_, ?_⟩ | rfl) : TQ r c L (cutQ r c n sl H I Q) .normal E := TQ.cn s hn hsl hI (Ent.imp hL.h)
/-- Rounds one by one. -/
def unrQ (P : Program) (r : Rd) (x : Code) (Q : Exit → Env → Rd → World → Prop) : Nat → Exit → Env → Rd → World → Prop
  | 0, .normal, _, _, _ => False
  | m + 1, .normal, E, r', w => x.wpIn (Wf r) 0 P (lift (unrQ P r x Q m)) (E.acd r') w
  | _, .exit i, E, r', w => Q (.exit i) E r' w
  | _, .goto i, E, r', w => Q (.goto i) E r' w
  | _, .ret, E, r', w => Q .ret E r' w
  | _, .panic ch, E, r', w => Q (.panic ch) E r' w
  | _, .outgrown, E, r', w => Q .outgrown E r' w
theorem unrQ_rounds {x : Code} : ∀ (m : Nat) (a : Act) (w : World), x.wpIn (Wf r) 0 P (lift (unrQ P r x Q m)) a w → Code.roundsIn (Wf r) 0 P x (lift Q) (m + 1) a w
  | 0, a, w, h => wpIn_mono h (by
      rintro e a' w' ⟨E', r', rfl, hq⟩
      cases e with
      | normal => exact hq.elim
      | _ => exact ⟨E', r', rfl, hq⟩)
  | m + 1, a, w, h => wpIn_mono h (by
      rintro e a' w' ⟨E', r', rfl, hq⟩
      cases e with
      | normal => exact unrQ_rounds m _ _ hq
      | _ => exact ⟨E', r', rfl, hq⟩)
theorem T.unr (m : Nat) {x : Code} (h : T P r c L x (unrQ P r x Q m) E) : T P r c L (.loop x) Q E := by
  unfold T at *
  exact fun w hw => wpIn_loop_rounds (m + 1) (unrQ_rounds m _ _ (h w hw))
instance {x : Code} {m : Nat} : Go1 (TQ r c L (unrQ P r x Q (m + 1)) .normal E) (T P r c L x (unrQ P r x Q m) E) := ⟨fun h => by unfold TQ; unfold T at h; exact fun w hw => h w hw⟩
instance {x : Code} {m i : Nat} : Go1 (TQ r c L (unrQ P r x Q m) (.exit i) E) (TQ r c L Q (.exit i) E) := ⟨fun h => by unfold TQ at *; exact fun w hw => by cases m <;> exact h w hw⟩
instance {x : Code} {m : Nat} : Go1 (TQ r c L (unrQ P r x Q m) .ret E) (TQ r c L Q .ret E) := ⟨fun h => by unfold TQ at *; exact fun w hw => by cases m <;> exact h w hw⟩
instance {x : Code} {m : Nat} [h : CalmC Q] : CalmC (unrQ P r x Q m) := ⟨fun ch E r' w hq => h.h ch E r' w (by cases m <;> exact hq)⟩
/-- .. in its block -/
theorem T.unb (id m : Nat) {x : Code} (h : T P r c L x (unrQ P r x (blockQ id Q) m) E) : T P r c L (.block id (.loop x)) Q E := T.block (T.unr m h)
end
end Pw
