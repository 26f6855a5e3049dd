/- Lemmas for the proofs of this seat: no statement of the seat is claimed here. -/
import Derived.Test.YtcidilijlgaohaaDoorPxD
set_option linter.all false
namespace Pw
open Go
/-! ## Functions of the machine's own -/
class Ext (P : Program) (f : FuncId) (args : List Value) (v : outParam Value) (C : outParam Prop) : Prop where h : C → ∀ w, (callFunc f args.toArray).run P w = .ok (.value v) w
section
variable {P : Program}
instance {f : FuncId} {args : List Value} {v : Value} {C : Prop} [h : Ext P f args v C] : Pu P (.call (.func (.func f) #[] #[]) args) (fun q => Vc C (q v)) :=
  ⟨fun E d op ty pos af g hs q hq => by
    cases hs with | call e1 e2 =>
    refine ⟨v, ?_, hq.r⟩
    unfold DP
    refine ⟨fun _ => by simp, fun w => ?_⟩
    have := h.h hq.l w
    simp [execOp, resolve, Deferred.ofValue, e1, invoke, evL.map e2, this]⟩
/-- math/bits.Add64 -/
class IsAdd (P : Program) (f : FuncId) : Prop where h : ∀ args w, (callFunc f args).run P w = (do pure (Next.value (← (Extern.MathBitsCarry.rows.head!).2 args)) : Sem Next).run P w
instance {f : FuncId} {x y z : Int} {a b k : Nat} [hf : IsAdd P f] [h1 : Nn x a] [h2 : Nn y b] [h3 : Nn z k] : Ext P f [.int .u64 x, .int .u64 y, .int .u64 z] (.tuple #[.int .u64 (((a + b + k) % 18446744073709551616 : Nat) : Int), .int .u64 (((a + b + k) / 18446744073709551616 : Nat) : Int)]) (k ≤ 1) :=
  ⟨fun hc w => by
    rw [hf.h, h1.h, h2.h, h3.h]
    have e1 : (Extern.MathBitsCarry.three "Add64" #[.int .u64 (a : Int), .int .u64 (b : Int), .int .u64 (k : Int)]).run P w = .ok (a, b, k) w := by
      rcases (by omega : k = 0 ∨ k = 1) with rfl | rfl <;> rfl
    have e2 : (Extern.MathBitsCarry.rows.head!).2 = (fun args => do
      let (x, y, c) ← Extern.MathBitsCarry.three "Add64" args
      pure (Extern.MathBitsCarry.pair ((x + y + c) % Extern.MathBitsCarry.m64) ((x + y + c) / Extern.MathBitsCarry.m64))) := rfl
    rw [e2]
    simp only [Sem.run_bind, e1, Result.andThen_ok, Sem.run_pure, Extern.MathBitsCarry.pair]
    have e3 : ∀ n : Nat, (Int.ofNat n) = (n : Int) := fun _ => rfl
    simp only [e3, Extern.MathBitsCarry.m64]⟩
end

section
variable {P : Program} {r : Rd} {c : Ctx} {L : List Assn} {Q : Exit → Env → Rd → World → Prop} {E : Env}
instance (priority := 500) {t e : TypeId} {b n : Nat} {cs : List Value} [hp : Ag P t] [hz : Sz P t n] [hr : RowAt L b e cs] : Re P c L (.load t (.pointer (some ⟨b, 0, none⟩))) (fun k => Vc (cs.length = n + 1) (k (.agg cs.toArray))) :=
  ⟨fun E d op ty pos af g hs k hk => by cases hs with | load e1 => exact ⟨_, D.ldRA e1 hp.h hz.h hr.h hk.l, hk.r⟩⟩
class PutRowB (L : List Assn) (b : Nat) (vs : List Value) (L' : outParam (List Assn)) (C : outParam Prop) : Prop where h : C → ∃ e cs, Put (row e b cs) L (row e b vs) L' ∧ cs.length = vs.length
instance (priority := 1100) {L : List Assn} {b : Nat} {vs cs : List Value} {e : TypeId} : PutRowB (row e b cs :: L) b vs (row e b vs :: L) (cs.length = vs.length) := ⟨fun h => ⟨e, cs, .head _ _ _, h⟩⟩
instance {A : Assn} {L L' : List Assn} {b : Nat} {vs : List Value} {C : Prop} [h : PutRowB L b vs L' C] : PutRowB (A :: L) b vs (A :: L') C := ⟨fun hc => let ⟨e, cs, h1, h2⟩ := h.h hc; ⟨e, cs, .tail h1, h2⟩⟩
instance (priority := 500) {t : TypeId} {b n : Nat} {vs : List Value} {L' : List Assn} {C : Prop} [hz : Sz P t n] [h1 : OnesL vs] [hp : PutRowB L b vs L' C] : St P c L (.store t (.pointer (some ⟨b, 0, none⟩)) (.agg vs.toArray)) (fun k => Vc (vs.length = n + 1 ∧ C) (k undef L')) :=
  ⟨fun r E d op ty pos af g hs k hk => by
    cases hs with | store e1 e2 =>
    obtain ⟨e, cs, h3, h4⟩ := hp.h hk.l.2
    have e0 : setAll cs 0 vs = vs := by rw [setAll_eq _ _ _ (by omega)]; simp [h4]
    exact (N.stA (cs := cs) e1 e2 hz.h (by rw [e0]; exact h3) (by omega) h1.h hk.l.1).imp fun _ _ hq => by rw [hq.1, hq.2]; exact hk.r⟩
/-- The end of a function whose result lies in a cell. -/
theorem TQ.finC {fn : Func} {R : List Assn} {B : Value → List Assn → Prop} {t b n : Nat} {ty e : TypeId} {us : List Value} [hp : Ag P ty] [hz : Sz P ty n] [hrow : RowAt L b e us]
    (h : Vc (us.length = n + 1) (Fini c L R B (.agg us.toArray))) (hr : fn.results = #[.cell t ty] := by rfl) (ht : E.get t = .pointer (some ⟨b, 0, none⟩) := by rfl) : TQ R0 c L (retQ P fn c R B) .ret E := by
  obtain ⟨hl, h⟩ := h
  unfold Fini at h
  obtain ⟨L', h3, h4⟩ := h
  exact TQ.ret (vs := [.agg us.toArray]) hr ⟨RV.atA ht hp.h hz.h hrow.h hl, rfl⟩ h3 h4
end
end Pw
