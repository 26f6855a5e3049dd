/- Lemmas for the proofs of this seat: no statement of the seat is claimed here. -/
import Derived.Test.YtcidilijlgaohaaDoorPxA
set_option linter.all false
namespace Pw
open Go
/-! ## Ranges over functions -/
theorem run_getLoop' {P : Program} {w : World} {l : Nat} {o : Loop} (h : w.heap[l]? = some (.loop o)) : (Instr.getLoop l).run P w = .ok o w := by
  have e1 : (getObj l).run P w = .ok (.loop o) w := by simp [getObj, Sem.run, h]
  simp only [Instr.getLoop, Sem.run_bind, e1, Result.andThen_ok, Sem.run_pure]
theorem run_setObj' {P : Program} {w : World} {l : Nat} {o : Loop} (o' : Obj) (h : w.heap[l]? = some (.loop o)) : (setObj l o').run P w = .ok () { w with heap := w.heap.setIfInBounds l o' } := by simp [setObj, Sem.run, h]
theorem SL.turn {c : Ctx} {L : List Assn} {w : World} {b : Nat} {o : Obj} (o' : Obj) (h : SL c (pt b o :: L) w) : SL c (pt b o' :: L) { w with heap := w.heap.setIfInBounds b o' } :=
  h.setObj rfl rfl rfl (MapKept.heap_set (h.heap (.head _ _))).1 (MapKept.heap_set (h.heap (.head _ _))).2
/-- The record of a loop while a round runs. -/
def busy (o : Loop) : Loop := { o with state := .busy }
/-- The end of a round. -/
def endQ (c : Ctx) (l : Nat) (o : Loop) (R : List Assn) (B : List Assn → Prop) : Exit → Env → Rd → World → Prop
  | .normal, _, _, w => ∃ L1, B L1 ∧ SL c (pt l (.loop (busy o)) :: (L1 ++ R)) w
  | _, _, _, _ => False
/-- Behind the assignment of a round. -/
def thenR (P : Program) (c : Ctx) (l : Nat) (o : Loop) (body : Code) (Q : Exit → Env → Rd → World → Prop) : Exit → Env → Rd → World → Prop
  | .normal, E, r, w => ∃ L, SL c (pt l (.loop o) :: L) w ∧ r = ⟨some l, []⟩ ∧ T P ⟨some l, []⟩ c (pt l (.loop (busy o)) :: L) body Q E
  | _, _, _, _ => False
/-- A round goes well: yield is called with vs, A is held. -/
def Yl (P : Program) (c : Ctx) (l : Nat) (o : Loop) (vs : List Value) (A : List Assn) (B : List Assn → Prop) : Prop :=
  ∀ R, ∃ E : Env, E.act.tmps = (o.params.zip vs.toArray).foldl (fun tmps (t, a) => tmps.setIfInBounds t a) o.tmps ∧
    T P ⟨some l, []⟩ c (pt l (.loop o) :: (A ++ R)) o.assign (thenR P c l o o.body (endQ c l o R B)) E
section
variable {P : Program} {r : Rd} {c : Ctx} {L : List Assn} {E : Env} {d : Option Tmp} {ty : TypeId} {pos : String} {af : Array Edge} {g : Option (Nat × Bool)} {Q : Exit → Env → Rd → World → Prop}
theorem N.yield {fo : Operand} {xs : List Operand} {ats : Array TypeId} {vs : List Value} {A R : List Assn} {l : Nat} {o : Loop} {B : List Assn → Prop}
    (hf : E.eval fo = .func (.yield l) #[] #[]) (ha : evL E xs vs) (hy : Yl P c l o vs A B) (hp : Pick (pt l (.loop o) :: A) L R) (hn : vs.length = o.params.size) (hs : o.state = .ready) (hpd : o.pending = none) :
    N P r c L E ⟨d, .call ⟨.value fo, xs.toArray, ats⟩, ty, pos, af, g⟩ (fun v L' => v = .bool true ∧ ∃ L1, B L1 ∧ L' = pt l (.loop o) :: (L1 ++ R)) := by
  unfold N
  intro w hw K Q hK
  refine ⟨fun _ _ => trivial, ?_⟩
  rw [Oper.semAt_eq _ _ _ (fun _ => by simp), E.acd_eval]
  have hw1 := hw.perm hp.perm
  have hl := hw1.heap (.head _ _)
  have hrun : (execOp E.eval ⟨d, .call ⟨.value fo, xs.toArray, ats⟩, ty, pos, af, g⟩).run P w = .ok (.round l o.fn ((o.params.zip vs.toArray).foldl (fun tmps (t, a) => tmps.setIfInBounds t a) o.tmps) o.assign o.body) w := by
    simp [execOp, resolve, Deferred.ofValue, hf, invoke, evL.map ha, Instr.yield, run_getLoop' hl, hn]
  rw [hrun]
  refine ⟨fun h => (by cases h), ?_⟩
  obtain ⟨E1, hE, hT⟩ := hy R
  refine RoundIn.mono (roundIn_of_wpIn (R := fun e w' => ∃ L1, e = .returned (.bool true) ∧ B L1 ∧ SL c (pt l (.loop o) :: (L1 ++ R)) w') trivial ?_) ?_
  · have e1 : ({ tmps := (o.params.zip vs.toArray).foldl (fun tmps (t, a) => tmps.setIfInBounds t a) o.tmps, defers := [] } : Act) = E1.acd ⟨some l, []⟩ := by rw [← hE]; rfl
    rw [e1]
    unfold T at hT
    refine wpIn_mono (hT w hw1) ?_
    rintro e a w1 ⟨E2, r2, rfl, hq⟩
    cases e with
    | normal =>
      obtain ⟨L2, h2, rfl, hb⟩ := hq
      have hl2 := h2.heap (.head _ _)
      refine ⟨{ w1 with heap := w1.heap.setIfInBounds l (.loop (busy o)) }, ?_, ?_⟩
      · have := run_setObj' (P := P) (.loop { o with state := .busy }) hl2
        simp only [Instr.beginRound, Sem.run_bind, run_getLoop' hl2, Result.andThen_ok, this, hs, Sem.run_pure]
        rfl
      · unfold T at hb
        refine wpIn_mono (hb _ (h2.turn _)) ?_
        rintro e a w3 ⟨E3, r3, rfl, hq3⟩
        cases e with
        | normal =>
          obtain ⟨L3, hB, h3⟩ := hq3
          have hl3 := h3.heap (.head _ _)
          refine ⟨.bool true, { w3 with heap := w3.heap.setIfInBounds l (.loop o) }, ?_, L3, rfl, hB, h3.turn _⟩
          have e4 : ({ busy o with state := .ready, pending := none } : Loop) = o := by
            cases o; simp only [busy] at *; subst hs hpd; rfl
          have := run_setObj' (P := P) (.loop o) hl3
          simp only [Instr.endRound, Sem.run_bind, run_getLoop' hl3, Result.andThen_ok, Option.isNone_none, if_true, e4, this, Sem.run_pure]
        | _ => exact hq3.elim
    | _ => exact hq.elim
  · rintro e w' ⟨L1, rfl, hB, hw'⟩
    exact hK (.bool true) _ w' ⟨rfl, L1, hB, rfl⟩ hw'
/-- The record as it is laid. -/
def lrec (f : FuncId) (E : Env) (ps : Array Tmp) (assign body : Code) (m : Nat) : Loop := { state := .ready, pending := none, fn := f, tmps := E.act.tmps, params := ps, assign, body, defers := m }
/-- The statement: at the outermost. -/
theorem T.rng {gf : Operand} {ps : Array Tmp} {assign body : Code} {first cap : List Value} {f : FuncId} {dm : List Nat} {A R : List Assn}
    (hf : E.eval gf = .func (.func f) first.toArray cap.toArray) (hc : ∀ args w, (callFunc f args).run P w = .ok (.enter f args) w) (hp : Pick A L R)
    (B : List Assn → Prop)
    (hs : ∀ l m fn, SatC P c f (first ++ [Value.func (.yield l) #[] #[]] ++ cap) (pt l (.loop (lrec fn E ps assign body m)) :: A) (fun _ L' => ∃ L1, B L1 ∧ L' = pt l (.loop (lrec fn E ps assign body m)) :: L1))
    (k : ∀ m L1, B L1 → TQ ⟨none, m :: dm⟩ c (pt m (.deferred (some [])) :: (L1 ++ R)) Q .normal E) : T P ⟨none, dm⟩ c L (.rangeFunc gf ps assign body) Q E := by
  unfold T
  intro w hw
  refine wpIn_rangeFunc fun fn _ => ?_
  have hw1 := hw.perm hp.perm
  obtain ⟨m, hm⟩ : ∃ m, m = w.heap.size := ⟨_, rfl⟩
  have hwm : SL c (pt m (.deferred (some [])) :: (A ++ R)) (w.alloc (.deferred (some []))) := by rw [hm]; exact hw1.alloc _
  obtain ⟨l, hl⟩ : ∃ l, l = (w.alloc (.deferred (some []))).heap.size := ⟨_, rfl⟩
  have hwl : SL c (pt l (.loop (lrec fn E ps assign body m)) :: pt m (.deferred (some [])) :: (A ++ R)) ((w.alloc (.deferred (some []))).alloc (.loop (lrec fn E ps assign body m))) := by rw [hl]; exact hwm.alloc _
  refine ⟨l, [{ target := .collected m, args := #[] }], (w.alloc (.deferred (some []))).alloc (.loop (lrec fn E ps assign body m)), { target := .fn (.func f) cap.toArray, args := (first ++ [Value.func (.yield l) #[] #[]]).toArray }, (w.alloc (.deferred (some []))).alloc (.loop (lrec fn E ps assign body m)), f, (first ++ [Value.func (.yield l) #[] #[]] ++ cap).toArray, (w.alloc (.deferred (some []))).alloc (.loop (lrec fn E ps assign body m)), ?_, ?_, fun _ _ => trivial, ?_, fun h => (by cases h), ?_⟩
  · have e1 : (newObj (.deferred (some []))).run P w = .ok m (w.alloc (.deferred (some []))) := by rw [hm]; exact run_newObj_alloc _ _ _
    have e2 : (newObj (.loop (lrec fn E ps assign body m))).run P (w.alloc (.deferred (some []))) = .ok l ((w.alloc (.deferred (some []))).alloc (.loop (lrec fn E ps assign body m))) := by rw [hl]; exact run_newObj_alloc _ _ _
    have e3 : (newObj (.loop { state := .ready, pending := none, fn, tmps := (E.acd ⟨none, dm⟩).tmps, params := ps, assign, body, defers := m })).run P (w.alloc (.deferred (some []))) = .ok l ((w.alloc (.deferred (some []))).alloc (.loop (lrec fn E ps assign body m))) := e2
    simp only [Instr.enterLoop, Sem.run_bind, e1, Result.andThen_ok, Sem.run_pure, e3]
  · rw [E.acd_eval]
    have e6 : E.eval (.const (.func (.yield l) #[] #[])) = .func (.yield l) #[] #[] := rfl
    simp [resolve, rangeCall, Deferred.ofValue, hf, e6]
  · simp [invoke, hc]
  · have h1 := hs l m fn (pt m (.deferred (some [])) :: R) _ (hwl.perm (.cons _ (List.perm_middle.symm)))
    refine CallsIn.mono h1 ?_
    rintro e w' ⟨v, L', rfl, ⟨L1, hB, rfl⟩, hw'⟩
    have hl' := hw'.heap (.head _ _)
    refine ⟨none, { w' with heap := w'.heap.setIfInBounds l (.loop { lrec fn E ps assign body m with state := .exhausted }) }, ?_, ?_⟩
    · have := run_setObj' (P := P) (.loop { lrec fn E ps assign body m with state := .exhausted }) hl'
      have e5 : ((lrec fn E ps assign body m).state == LoopState.busy) = false := rfl
      simp only [Instr.endLoop, Sem.run_bind, run_getLoop' hl', Result.andThen_ok, e5, Sem.run_ite, this, Sem.run_pure]
      rfl
    · have h2 := hw'.turn (.loop { lrec fn E ps assign body m with state := .exhausted })
      have h3 : SL c (L1 ++ pt m (.deferred (some [])) :: R) _ := ⟨h2.1, h2.2.1, h2.2.2.1, h2.2.2.2.tail⟩
      have h4 := k m L1 hB
      unfold TQ at h4
      exact ⟨E, ⟨none, m :: dm⟩, rfl, h4 _ (h3.perm List.perm_middle)⟩
end
end Pw
