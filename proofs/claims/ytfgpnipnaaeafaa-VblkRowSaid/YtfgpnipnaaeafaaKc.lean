/- Lemmas for the proofs of this seat: no statement of the seat is claimed here. -/
import Derived.LoopNIn
import Derived.Laws.IdiomRangeMap
import Derived.Lib.UnsafeStr
import Derived.Lib.Builder
import Derived.Test.YtfgpnipnaaeafaaKb
set_option linter.all false

namespace Pw
open Go
/-- A step. -/
theorem stp {G G' : Prop} (k : G') (h : G' → G := by
  first
  | exact Go1.go
  | exact fun k => TO.s (by conv => lhs; whnf) k
  | exact fun k => TO.s0 (by conv => lhs; whnf) k
  | exact fun k => T.condT rfl k
  | exact fun k => T.condF rfl k
  | exact fun k => T.cD rfl k
  | exact fun k => T.cB rfl k
  | exact fun k => TO.off rfl rfl k
  | exact fun k => TO.offU rfl k
  | exact fun k => TO.gy rfl (by conv => lhs; whnf) k
  | exact fun k => TO.gD rfl rfl rfl k
  | ((fail_if_success (exact fun k => TO.kT rfl rfl k)); (fail_if_success (exact fun k => TO.kF rfl rfl k)); exact fun k => TO.gS rfl rfl rfl k)
  | exact fun k => TQ.bo rfl k
  | exact fun k => TQ.fin k
  | exact fun k => TQ.finN k
  | exact fun k => Vc.mk (by (repeat' first | omega | assumption | trivial | rfl | refine ⟨?_, ?_⟩ | (rw [List.length_map]; first | assumption | omega) | exact Nat.lt_of_le_of_lt (Nat.div_le_self _ _) (by omega) | exact Nat.lt_of_lt_of_le (UInt8.toNat_lt _) (by decide)); first | done | fail) k
  | exact fun k => Ei.t (by first | omega | exact Nat.lt_of_lt_of_le (UInt8.toNat_lt _) (by decide)) k
  | exact fun k => Opt.n (by assumption) k
  | exact fun k => Opt.s (by assumption) k
  | exact fun k => TS.p0 rfl (by conv => lhs; whnf) k
  | exact fun k => TS.d0 rfl (by conv => lhs; whnf) k
  | exact fun k => TS.one k
  | exact fun k => TN.r0 rfl (by conv => lhs; whnf) k
  | exact fun k => TN.s0 rfl rfl (by conv => lhs; whnf) k
  | exact fun k => TN.sz rfl rfl (by conv => lhs; whnf) k
  | exact fun k => TS.fin k
  | exact fun k => TS.pn rfl rfl rfl k
  | exact fun k => TS.pu rfl rfl k
  | exact fun k => TS.py rfl rfl (by conv => lhs; whnf) k
  | exact fun k => TS.dn rfl rfl rfl k
  | exact fun k => TS.du rfl rfl k
  | exact fun k => TS.dy rfl rfl (by conv => lhs; whnf) k
  | exact fun k => TN.no rfl rfl rfl k
  | exact fun k => TN.nu rfl rfl k
  | exact fun k => TN.ry rfl rfl (by conv => lhs; whnf) k
  | exact fun k => TN.sy rfl rfl rfl (by conv => lhs; whnf) k
  | exact fun k => TS.two k
  | exact fun k => TS.three k
  | exact fun k => TS.four k
  | exact fun k => TS.gD rfl rfl k
  | ((fail_if_success (exact fun k => TS.kT rfl rfl k)); (fail_if_success (exact fun k => TS.kF rfl rfl k)); exact fun k => TS.gS rfl rfl k)) : G := h k
end Pw


namespace Pw
open Go
/-! ## Ranges over functions -/
theorem run_getLoop' {P : Program} {w : World} {l : Nat} {o : Loop} (h : w.heap[l]? = some (.loop o)) : (Instr.getLoop l).run P w = .ok o w := by
  have e1 : (getObj l).run P w = .ok (.loop o) w := by simp [getObj, Sem.run, h]
  simp only [Instr.getLoop, Sem.run_bind, e1, Result.andThen_ok, Sem.run_pure]
theorem run_setObj' {P : Program} {w : World} {l : Nat} {o : Loop} (o' : Obj) (h : w.heap[l]? = some (.loop o)) : (setObj l o').run P w = .ok () { w with heap := w.heap.setIfInBounds l o' } := by simp [setObj, Sem.run, h]
theorem SL.turn {c : Ctx} {L : List Assn} {w : World} {b : Nat} {o : Obj} (o' : Obj) (h : SL c (pt b o :: L) w) : SL c (pt b o' :: L) { w with heap := w.heap.setIfInBounds b o' } :=
  h.setObj rfl rfl rfl (MapKept.heap_set (h.heap (.head _ _))).1 (MapKept.heap_set (h.heap (.head _ _))).2
/-- The record of a loop while a round runs. -/
def busy (o : Loop) : Loop := { o with state := .busy }
/-- The end of a round. -/
def endQ (c : Ctx) (l : Nat) (o : Loop) (R : List Assn) (B : List Assn → Prop) : Exit → Env → Rd → World → Prop
  | .normal, _, _, w => ∃ L1, B L1 ∧ SL c (pt l (.loop (busy o)) :: (L1 ++ R)) w
  | _, _, _, _ => False
/-- Behind the assignment of a round. -/
def thenR (P : Program) (c : Ctx) (l : Nat) (o : Loop) (body : Code) (Q : Exit → Env → Rd → World → Prop) : Exit → Env → Rd → World → Prop
  | .normal, E, r, w => ∃ L, SL c (pt l (.loop o) :: L) w ∧ r = ⟨some l, [], []⟩ ∧ T P ⟨some l, [], []⟩ c (pt l (.loop (busy o)) :: L) body Q E
  | _, _, _, _ => False
/-- A round goes well: yield is called with vs, A is held. -/
def Yl (P : Program) (c : Ctx) (l : Nat) (o : Loop) (vs : List Value) (A : List Assn) (B : List Assn → Prop) : Prop :=
  ∀ R, ∃ E : Env, E.act.tmps = (o.params.zip vs.toArray).foldl (fun tmps (t, a) => tmps.setIfInBounds t a) o.tmps ∧
    T P ⟨some l, [], []⟩ c (pt l (.loop o) :: (A ++ R)) o.assign (thenR P c l o o.body (endQ c l o R B)) E
section
variable {P : Program} {r : Rd} {c : Ctx} {L : List Assn} {E : Env} {d : Option Tmp} {ty : TypeId} {pos : String} {af : Array Edge} {g : Option (Nat × Bool)} {Q : Exit → Env → Rd → World → Prop}
theorem N.yield {fo : Operand} {xs : List Operand} {ats : Array TypeId} {vs : List Value} {A R : List Assn} {l : Nat} {o : Loop} {B : List Assn → Prop}
    (hf : E.eval fo = .func (.yield l) #[] #[]) (ha : evL E xs vs) (hy : Yl P c l o vs A B) (hp : Pick (pt l (.loop o) :: A) L R) (hn : vs.length = o.params.size) (hs : o.state = .ready) (hpd : o.pending = none) :
    N P r c L E ⟨d, .call ⟨.value fo, xs.toArray, ats⟩, ty, pos, af, g⟩ (fun v L' => v = .bool true ∧ ∃ L1, B L1 ∧ L' = pt l (.loop o) :: (L1 ++ R)) := by
  unfold N
  intro w hw K Q hK
  refine ⟨fun _ _ => trivial, ?_⟩
  rw [Oper.semAt_eq _ _ _ (fun _ => by simp), E.acd_eval]
  have hw1 := hw.perm hp.perm
  have hl := hw1.heap (.head _ _)
  have hrun : (execOp E.eval ⟨d, .call ⟨.value fo, xs.toArray, ats⟩, ty, pos, af, g⟩).run P w = .ok (.round l o.fn ((o.params.zip vs.toArray).foldl (fun tmps (t, a) => tmps.setIfInBounds t a) o.tmps) o.assign o.body) w := by
    simp [execOp, resolve, Deferred.ofValue, hf, invoke, evL.map ha, Instr.yield, run_getLoop' hl, hn]
  rw [hrun]
  refine ⟨fun h => (by cases h), ?_⟩
  obtain ⟨E1, hE, hT⟩ := hy R
  refine RoundIn.mono (roundIn_of_wpIn (R := fun e w' => ∃ L1, e = .returned (.bool true) ∧ B L1 ∧ SL c (pt l (.loop o) :: (L1 ++ R)) w') trivial ?_) ?_
  · have e1 : ({ tmps := (o.params.zip vs.toArray).foldl (fun tmps (t, a) => tmps.setIfInBounds t a) o.tmps, defers := [] } : Act) = E1.acd ⟨some l, [], []⟩ := by rw [← hE]; rfl
    rw [e1]
    unfold T at hT
    refine wpIn_mono (hT w hw1) ?_
    rintro e a w1 ⟨E2, r2, rfl, hq⟩
    cases e with
    | normal =>
      obtain ⟨L2, h2, rfl, hb⟩ := hq
      have hl2 := h2.heap (.head _ _)
      refine ⟨{ w1 with heap := w1.heap.setIfInBounds l (.loop (busy o)) }, ?_, ?_⟩
      · have := run_setObj' (P := P) (.loop { o with state := .busy }) hl2
        simp only [Instr.beginRound, Sem.run_bind, run_getLoop' hl2, Result.andThen_ok, this, hs, Sem.run_pure]
        rfl
      · unfold T at hb
        refine wpIn_mono (hb _ (h2.turn _)) ?_
        rintro e a w3 ⟨E3, r3, rfl, hq3⟩
        cases e with
        | normal =>
          obtain ⟨L3, hB, h3⟩ := hq3
          have hl3 := h3.heap (.head _ _)
          refine ⟨.bool true, { w3 with heap := w3.heap.setIfInBounds l (.loop o) }, ?_, L3, rfl, hB, h3.turn _⟩
          have e4 : ({ busy o with state := .ready, pending := none } : Loop) = o := by
            cases o; simp only [busy] at *; subst hs hpd; rfl
          have := run_setObj' (P := P) (.loop o) hl3
          simp only [Instr.endRound, Sem.run_bind, run_getLoop' hl3, Result.andThen_ok, Option.isNone_none, if_true, e4, this, Sem.run_pure]
        | _ => exact hq3.elim
    | _ => exact hq.elim
  · rintro e w' ⟨L1, rfl, hB, hw'⟩
    exact hK (.bool true) _ w' ⟨rfl, L1, hB, rfl⟩ hw'
/-- The record as it is laid. -/
def lrec (f : FuncId) (E : Env) (ps : Array Tmp) (assign body : Code) (m : Nat) : Loop := { state := .ready, pending := none, fn := f, tmps := E.act.tmps, params := ps, assign, body, defers := m }
/-- The statement: at the outermost. -/
theorem T.rng {gf : Operand} {ps : Array Tmp} {assign body : Code} {first cap : List Value} {f : FuncId} {dm : List Nat} {dc : List Deferred} {A R : List Assn}
    (hf : E.eval gf = .func (.func f) first.toArray cap.toArray) (hc : ∀ args w, (callFunc f args).run P w = .ok (.enter f args) w) (hp : Pick A L R)
    (B : List Assn → Prop)
    (hs : ∀ l m fn, SatC P c f (first ++ [Value.func (.yield l) #[] #[]] ++ cap) (pt l (.loop (lrec fn E ps assign body m)) :: A) (fun _ L' => ∃ L1, B L1 ∧ L' = pt l (.loop (lrec fn E ps assign body m)) :: L1))
    (k : ∀ m L1, B L1 → TQ ⟨none, m :: dm, dc⟩ c (pt m (.deferred (some [])) :: (L1 ++ R)) Q .normal E) : T P ⟨none, dm, dc⟩ c L (.rangeFunc gf ps assign body) Q E := by
  unfold T
  intro w hw
  refine wpIn_rangeFunc fun fn _ => ?_
  have hw1 := hw.perm hp.perm
  obtain ⟨m, hm⟩ : ∃ m, m = w.heap.size := ⟨_, rfl⟩
  have hwm : SL c (pt m (.deferred (some [])) :: (A ++ R)) (w.alloc (.deferred (some []))) := by rw [hm]; exact hw1.alloc _
  obtain ⟨l, hl⟩ : ∃ l, l = (w.alloc (.deferred (some []))).heap.size := ⟨_, rfl⟩
  have hwl : SL c (pt l (.loop (lrec fn E ps assign body m)) :: pt m (.deferred (some [])) :: (A ++ R)) ((w.alloc (.deferred (some []))).alloc (.loop (lrec fn E ps assign body m))) := by rw [hl]; exact hwm.alloc _
  refine ⟨l, [{ target := .collected m, args := #[] }], (w.alloc (.deferred (some []))).alloc (.loop (lrec fn E ps assign body m)), { target := .fn (.func f) cap.toArray, args := (first ++ [Value.func (.yield l) #[] #[]]).toArray }, (w.alloc (.deferred (some []))).alloc (.loop (lrec fn E ps assign body m)), f, (first ++ [Value.func (.yield l) #[] #[]] ++ cap).toArray, (w.alloc (.deferred (some []))).alloc (.loop (lrec fn E ps assign body m)), ?_, ?_, fun _ _ => trivial, ?_, fun h => (by cases h), ?_⟩
  · have e1 : (newObj (.deferred (some []))).run P w = .ok m (w.alloc (.deferred (some []))) := by rw [hm]; exact run_newObj_alloc _ _ _
    have e2 : (newObj (.loop (lrec fn E ps assign body m))).run P (w.alloc (.deferred (some []))) = .ok l ((w.alloc (.deferred (some []))).alloc (.loop (lrec fn E ps assign body m))) := by rw [hl]; exact run_newObj_alloc _ _ _
    have e3 : (newObj (.loop { state := .ready, pending := none, fn, tmps := (E.acd ⟨none, dm, dc⟩).tmps, params := ps, assign, body, defers := m })).run P (w.alloc (.deferred (some []))) = .ok l ((w.alloc (.deferred (some []))).alloc (.loop (lrec fn E ps assign body m))) := e2
    simp only [Instr.enterLoop, Sem.run_bind, e1, Result.andThen_ok, Sem.run_pure, e3]
  · rw [E.acd_eval]
    have e6 : E.eval (.const (.func (.yield l) #[] #[])) = .func (.yield l) #[] #[] := rfl
    simp [resolve, rangeCall, Deferred.ofValue, hf, e6]
  · simp [invoke, hc]
  · have h1 := hs l m fn (pt m (.deferred (some [])) :: R) _ (hwl.perm (.cons _ (List.perm_middle.symm)))
    refine CallsIn.mono h1 ?_
    rintro e w' ⟨v, L', rfl, ⟨L1, hB, rfl⟩, hw'⟩
    have hl' := hw'.heap (.head _ _)
    refine ⟨none, { w' with heap := w'.heap.setIfInBounds l (.loop { lrec fn E ps assign body m with state := .exhausted }) }, ?_, ?_⟩
    · have := run_setObj' (P := P) (.loop { lrec fn E ps assign body m with state := .exhausted }) hl'
      have e5 : ((lrec fn E ps assign body m).state == LoopState.busy) = false := rfl
      simp only [Instr.endLoop, Sem.run_bind, run_getLoop' hl', Result.andThen_ok, e5, Sem.run_ite, this, Sem.run_pure]
      rfl
    · have h2 := hw'.turn (.loop { lrec fn E ps assign body m with state := .exhausted })
      have h3 : SL c (L1 ++ pt m (.deferred (some [])) :: R) _ := ⟨h2.1, h2.2.1, h2.2.2.1, h2.2.2.2.tail⟩
      have h4 := k m L1 hB
      unfold TQ at h4
      exact ⟨E, ⟨none, m :: dm, dc⟩, rfl, h4 _ (h3.perm List.perm_middle)⟩
end
end Pw


namespace Pw
open Go
/-! ## Strings, and slices of bytes -/
section
variable {P : Program} {r : Rd} {c : Ctx} {L R : List Assn}
instance {l : List UInt8} {i : Nat} {x : Int} {t : TypeId} {k : IntKind} [ht : Und P t .string] [hx : Nn x i] : Pu P (.index t (str l) (.int k x)) (fun q => Vc (i < l.length) (q (byteV (gt l i)))) :=
  ⟨fun E d op ty pos af g hs q hq => by
    cases hs with | index e1 e2 =>
    rw [hx.h] at e2
    exact ⟨_, DP.ixT e1 e2 ht.h (gt_get hq.l), hq.r⟩⟩
instance {l : List UInt8} {i j : Nat} {x y : Int} {t : TypeId} {k k' : IntKind} [ht : Und P t .string] [hx : Nn x i] [hy : Nn y j] : Pu P (.slice t (str l) (some (.int k x)) (some (.int k' y)) none) (fun q => Vc (i ≤ j ∧ j ≤ l.length) (q (str ((l.take j).drop i)))) :=
  ⟨fun E d op ty pos af g hs q hq => by
    cases hs with | @slice _ _ lo hi mx _ _ _ _ e1 e2 e3 e4 =>
    cases lo with | none => simp at e2 | some lo =>
    cases hi with | none => simp at e3 | some hi =>
    cases mx with | some _ => simp at e4 | none =>
    simp only [Option.map_some, Option.some.injEq] at e2 e3
    rw [hx.h] at e2; rw [hy.h] at e3
    exact ⟨_, DP.slT e1 e2 e3 ht.h hq.l.1 hq.l.2, hq.r⟩⟩
instance {l : List UInt8} {i : Nat} {x : Int} {t : TypeId} {k : IntKind} [ht : Und P t .string] [hx : Nn x i] : Pu P (.slice t (str l) (some (.int k x)) none none) (fun q => Vc (i ≤ l.length) (q (str (l.drop i)))) :=
  ⟨fun E d op ty pos af g hs q hq => by
    cases hs with | @slice _ _ lo hi mx _ _ _ _ e1 e2 e3 e4 =>
    cases lo with | none => simp at e2 | some lo =>
    cases hi with | some _ => simp at e3 | none =>
    cases mx with | some _ => simp at e4 | none =>
    simp only [Option.map_some, Option.some.injEq] at e2
    rw [hx.h] at e2
    exact ⟨_, DP.slTl e1 e2 ht.h hq.l, hq.r⟩⟩
instance {l : List UInt8} {j : Nat} {y : Int} {t : TypeId} {k : IntKind} [ht : Und P t .string] [hy : Nn y j] : Pu P (.slice t (str l) none (some (.int k y)) none) (fun q => Vc (j ≤ l.length) (q (str (l.take j)))) :=
  ⟨fun E d op ty pos af g hs q hq => by
    cases hs with | @slice _ _ lo hi mx _ _ _ _ e1 e2 e3 e4 =>
    cases lo with | some _ => simp at e2 | none =>
    cases hi with | none => simp at e3 | some hi =>
    cases mx with | some _ => simp at e4 | none =>
    simp only [Option.map_some, Option.some.injEq] at e3
    rw [hy.h] at e3
    exact ⟨_, DP.slTh e1 e3 ht.h hq.l, hq.r⟩⟩
/-! slices of slices and of arrays -/
section
variable {b o len cap i j m n p : Nat} {x y z : Int} {t e : TypeId} {k k' k2 : IntKind} {o' : Nat}
/-- Where a part of a slice begins. -/
def offS (cap i o o' : Nat) : Nat := if cap = i then o else o'
theorem offS_ne {cap i o o' : Nat} (h : i < cap) : offS cap i o o' = o' := if_neg (by omega)
instance [ht : Und P t (.slice e)] [hs : Sz P e n] [hm : MulA i (n + 1) p] [ha : Ad o p o'] [hx : Nn x i] [hy : Nn y j] : Pu P (.slice t (.slice (some ⟨b, o, none⟩) len cap) (some (.int k x)) (some (.int k' y)) none) (fun q => Ei (i ≤ j ∧ j ≤ cap ∧ i < cap) (q (.slice (some ⟨b, o', none⟩) (j - i) (cap - i))) (Vc (i ≤ j ∧ j ≤ cap) (q (.slice (some ⟨b, offS cap i o o', none⟩) (j - i) (cap - i))))) :=
  ⟨fun E d op ty pos af g hr q hq => by
    cases hr with | @slice _ _ lo hi mx _ _ _ _ e1 e2 e3 e4 =>
    cases lo with | none => simp at e2 | some lo =>
    cases hi with | none => simp at e3 | some hi =>
    cases mx with | some _ => simp at e4 | none =>
    simp only [Option.map_some, Option.some.injEq] at e2 e3
    rw [hx.h] at e2; rw [hy.h] at e3
    rcases hq with ⟨⟨h1, h2, h3⟩, hq⟩ | ⟨⟨h1, h2⟩, hq⟩
    · have := DP.slS (d := d) (ty := ty) (pos := pos) (af := af) (g := g) e1 e2 e3 ht.h hs.h h1 h2
      rw [if_neg (by omega), hm.h, ha.h] at this
      exact ⟨_, this, hq⟩
    · have := DP.slS (d := d) (ty := ty) (pos := pos) (af := af) (g := g) e1 e2 e3 ht.h hs.h h1 h2
      rw [hm.h, ha.h] at this
      exact ⟨_, this, hq⟩⟩
instance [ht : Und P t (.slice e)] [hs : Sz P e n] [hm : MulA i (n + 1) p] [ha : Ad o p o'] [hx : Nn x i] [hy : Nn y j] [hz : Nn z m] : Pu P (.slice t (.slice (some ⟨b, o, none⟩) len cap) (some (.int k x)) (some (.int k' y)) (some (.int k2 z))) (fun q => Ei (i ≤ j ∧ j ≤ m ∧ m ≤ cap ∧ i < m) (q (.slice (some ⟨b, o', none⟩) (j - i) (m - i))) (Vc (i ≤ j ∧ j ≤ m ∧ m ≤ cap) (q (.slice (some ⟨b, offS m i o o', none⟩) (j - i) (m - i))))) :=
  ⟨fun E d op ty pos af g hr q hq => by
    cases hr with | @slice _ _ lo hi mx _ _ _ _ e1 e2 e3 e4 =>
    cases lo with | none => simp at e2 | some lo =>
    cases hi with | none => simp at e3 | some hi =>
    cases mx with | none => simp at e4 | some mx =>
    simp only [Option.map_some, Option.some.injEq] at e2 e3 e4
    rw [hx.h] at e2; rw [hy.h] at e3; rw [hz.h] at e4
    rcases hq with ⟨⟨h1, h2, h3, h4⟩, hq⟩ | ⟨⟨h1, h2, h3⟩, hq⟩
    · have := DP.slSm (d := d) (ty := ty) (pos := pos) (af := af) (g := g) e1 e2 e3 e4 ht.h hs.h h1 h2 h3
      rw [if_neg (by omega), hm.h, ha.h] at this
      exact ⟨_, this, hq⟩
    · have := DP.slSm (d := d) (ty := ty) (pos := pos) (af := af) (g := g) e1 e2 e3 e4 ht.h hs.h h1 h2 h3
      rw [hm.h, ha.h] at this
      exact ⟨_, this, hq⟩⟩
instance [ht : Und P t (.slice e)] [hs : Sz P e n] [hm : MulA i (n + 1) p] [ha : Ad o p o'] [hx : Nn x i] : Pu P (.slice t (.slice (some ⟨b, o, none⟩) len cap) (some (.int k x)) none none) (fun q => Ei (i ≤ len ∧ i < cap) (q (.slice (some ⟨b, o', none⟩) (len - i) (cap - i))) (Vc (i ≤ len) (q (.slice (some ⟨b, offS cap i o o', none⟩) (len - i) (cap - i))))) :=
  ⟨fun E d op ty pos af g hr q hq => by
    cases hr with | @slice _ _ lo hi mx _ _ _ _ e1 e2 e3 e4 =>
    cases lo with | none => simp at e2 | some lo =>
    cases hi with | some _ => simp at e3 | none =>
    cases mx with | some _ => simp at e4 | none =>
    simp only [Option.map_some, Option.some.injEq] at e2
    rw [hx.h] at e2
    rcases hq with ⟨⟨h1, h3⟩, hq⟩ | ⟨h1, hq⟩
    · have := DP.slSl (d := d) (ty := ty) (pos := pos) (af := af) (g := g) e1 e2 ht.h hs.h h1
      rw [if_neg (by omega), hm.h, ha.h] at this
      exact ⟨_, this, hq⟩
    · have := DP.slSl (d := d) (ty := ty) (pos := pos) (af := af) (g := g) e1 e2 ht.h hs.h h1
      rw [hm.h, ha.h] at this
      exact ⟨_, this, hq⟩⟩
instance [ht : Und P t (.slice e)] [hs : Sz P e n] [hy : Nn y j] : Pu P (.slice t (.slice (some ⟨b, o, none⟩) len cap) none (some (.int k' y)) none) (fun q => Vc (j ≤ cap) (q (.slice (some ⟨b, o, none⟩) j cap))) :=
  ⟨fun E d op ty pos af g hr q hq => by
    cases hr with | @slice _ _ lo hi mx _ _ _ _ e1 e2 e3 e4 =>
    cases lo with | some _ => simp at e2 | none =>
    cases hi with | none => simp at e3 | some hi =>
    cases mx with | some _ => simp at e4 | none =>
    simp only [Option.map_some, Option.some.injEq] at e3
    rw [hy.h] at e3
    exact ⟨_, DP.slSh e1 e3 ht.h hs.h hq.l, hq.r⟩⟩
instance [ht : Und P t (.array len e)] [hs : Sz P e n] [hm : MulA i (n + 1) p] [ha : Ad o p o'] [hx : Nn x i] : Pu P (.slice t (.pointer (some ⟨b, o, none⟩)) (some (.int k x)) none none) (fun q => Ei (i < len) (q (.slice (some ⟨b, o', none⟩) (len - i) (len - i))) (Vc (i ≤ len) (q (.slice (some ⟨b, offS len i o o', none⟩) (len - i) (len - i))))) :=
  ⟨fun E d op ty pos af g hr q hq => by
    cases hr with | @slice _ _ lo hi mx _ _ _ _ e1 e2 e3 e4 =>
    cases lo with | none => simp at e2 | some lo =>
    cases hi with | some _ => simp at e3 | none =>
    cases mx with | some _ => simp at e4 | none =>
    simp only [Option.map_some, Option.some.injEq] at e2
    rw [hx.h] at e2
    rcases hq with ⟨h3, hq⟩ | ⟨h1, hq⟩
    · have := DP.slAl (d := d) (ty := ty) (pos := pos) (af := af) (g := g) e1 e2 ht.h hs.h (by omega)
      rw [if_neg (by omega), hm.h, ha.h] at this
      exact ⟨_, this, hq⟩
    · have := DP.slAl (d := d) (ty := ty) (pos := pos) (af := af) (g := g) e1 e2 ht.h hs.h h1
      rw [hm.h, ha.h] at this
      exact ⟨_, this, hq⟩⟩
instance [ht : Und P t (.array len e)] [hs : Sz P e n] [hy : Nn y j] : Pu P (.slice t (.pointer (some ⟨b, o, none⟩)) none (some (.int k' y)) none) (fun q => Vc (j ≤ len) (q (.slice (some ⟨b, o, none⟩) j len))) :=
  ⟨fun E d op ty pos af g hr q hq => by
    cases hr with | @slice _ _ lo hi mx _ _ _ _ e1 e2 e3 e4 =>
    cases lo with | some _ => simp at e2 | none =>
    cases hi with | none => simp at e3 | some hi =>
    cases mx with | some _ => simp at e4 | none =>
    simp only [Option.map_some, Option.some.injEq] at e3
    rw [hy.h] at e3
    exact ⟨_, DP.slAh e1 e3 ht.h hs.h hq.l, hq.r⟩⟩
instance [ht : Und P t (.array len e)] [hs : Sz P e n] : Pu P (.slice t (.pointer (some ⟨b, o, none⟩)) none none none) (fun q => q (.slice (some ⟨b, o, none⟩) len len)) :=
  ⟨fun E d op ty pos af g hr q hq => by
    cases hr with | @slice _ _ lo hi mx _ _ _ _ e1 e2 e3 e4 =>
    cases lo with | some _ => simp at e2 | none =>
    cases hi with | some _ => simp at e3 | none =>
    cases mx with | some _ => simp at e4 | none =>
    exact ⟨_, DP.slAa e1 ht.h hs.h, hq⟩⟩
instance [ht : Und P t (.array len e)] [hs : Sz P e n] [hm : MulA i (n + 1) p] [ha : Ad o p o'] [hx : Nn x i] [hy : Nn y j] : Pu P (.slice t (.pointer (some ⟨b, o, none⟩)) (some (.int k x)) (some (.int k' y)) none) (fun q => Ei (i ≤ j ∧ j ≤ len ∧ i < len) (q (.slice (some ⟨b, o', none⟩) (j - i) (len - i))) (Vc (i ≤ j ∧ j ≤ len) (q (.slice (some ⟨b, offS len i o o', none⟩) (j - i) (len - i))))) :=
  ⟨fun E d op ty pos af g hr q hq => by
    cases hr with | @slice _ _ lo hi mx _ _ _ _ e1 e2 e3 e4 =>
    cases lo with | none => simp at e2 | some lo =>
    cases hi with | none => simp at e3 | some hi =>
    cases mx with | some _ => simp at e4 | none =>
    simp only [Option.map_some, Option.some.injEq] at e2 e3
    rw [hx.h] at e2; rw [hy.h] at e3
    rcases hq with ⟨⟨h1, h2, h3⟩, hq⟩ | ⟨⟨h1, h2⟩, hq⟩
    · have := DP.slAlh (d := d) (ty := ty) (pos := pos) (af := af) (g := g) e1 e2 e3 ht.h hs.h h1 h2
      rw [if_neg (by omega), hm.h, ha.h] at this
      exact ⟨_, this, hq⟩
    · have := DP.slAlh (d := d) (ty := ty) (pos := pos) (af := af) (g := g) e1 e2 e3 ht.h hs.h h1 h2
      rw [hm.h, ha.h] at this
      exact ⟨_, this, hq⟩⟩
end
/-! the least, the greatest -/
instance {k : IntKind} {x y : Int} {a b : Nat} {ts : List TypeId} [h1 : Nn x a] [h2 : Nn y b] : Pu P (.builtin .min [.int k x, .int k y] ts) (fun q => q (.int k ((min a b : Nat) : Int))) := ⟨fun E d op ty pos af g hs q hq => by
    cases hs with | builtin e =>
    rename_i xs
    match xs, e with
    | [x1, x2], ⟨e1, e2, _⟩ => rw [h1.h] at e1; rw [h2.h] at e2; exact ⟨_, DP.minN e1 e2, hq⟩⟩
instance {k : IntKind} {x y : Int} {a b : Nat} {ts : List TypeId} [h1 : Nn x a] [h2 : Nn y b] : Pu P (.builtin .max [.int k x, .int k y] ts) (fun q => q (.int k ((max a b : Nat) : Int))) := ⟨fun E d op ty pos af g hs q hq => by
    cases hs with | builtin e =>
    rename_i xs
    match xs, e with
    | [x1, x2], ⟨e1, e2, _⟩ => rw [h1.h] at e1; rw [h2.h] at e2; exact ⟨_, DP.maxN e1 e2, hq⟩⟩
instance (priority := 500) {k : IntKind} {x y : Int} {ts : List TypeId} : Pu P (.builtin .min [.int k x, .int k y] ts) (fun q => q (.int k (min x y))) := ⟨fun E d op ty pos af g hs q hq => by
    cases hs with | builtin e =>
    rename_i xs
    match xs, e with
    | [x1, x2], ⟨e1, e2, _⟩ => exact ⟨_, DP.minI e1 e2, hq⟩⟩
instance (priority := 500) {k : IntKind} {x y : Int} {ts : List TypeId} : Pu P (.builtin .max [.int k x, .int k y] ts) (fun q => q (.int k (max x y))) := ⟨fun E d op ty pos af g hs q hq => by
    cases hs with | builtin e =>
    rename_i xs
    match xs, e with
    | [x1, x2], ⟨e1, e2, _⟩ => exact ⟨_, DP.maxI e1 e2, hq⟩⟩
/-! between strings and slices of bytes -/
instance {a b e : TypeId} {l : List UInt8} [ha : Und P a .string] [hb : Und P b (.slice e)] [he : Und P e (.int .u8)] : St P c L (.conv a b (str l)) (fun q => ∀ b0 k, q (.slice (some ⟨b0, 0, none⟩) l.length k) (sl e 1 (.slice (some ⟨b0, 0, none⟩) l.length k) l.length (l.map byteV) :: L)) :=
  ⟨fun r E d op ty pos af g hs q hq => by
    cases hs with | conv e1 =>
    refine N.ent (N.csb e1 ha.h hb.h he.h) ?_
    rintro v L' ⟨b0, rest, rfl, rfl⟩
    refine ⟨sl e 1 (.slice (some ⟨b0, 0, none⟩) l.length (l.length + rest.length)) l.length (l.map byteV) :: L, Ent.sl (by simp) (by simp), hq b0 _⟩⟩
theorem D.cbsE {E : Env} {d : Option Tmp} {ty : TypeId} {pos : String} {af : Array Edge} {g : Option (Nat × Bool)} {x : Operand} {a : Option Addr} {n k : Nat} {l : List UInt8} {t t' e e' : TypeId} (hx : E.eval x = .slice a n k) (ht : P.underlying t = some (.slice e)) (ht' : P.underlying t' = some .string) (he : P.underlying e = some (.int .u8)) (hm : LMem (sl e' 1 (.slice a n k) n (l.map byteV)) L) :
    D P c L E ⟨d, .convert t t' x, ty, pos, af, g⟩ (str l) := by
  unfold D
  refine ⟨fun _ => by simp, fun w hw => ?_⟩
  obtain ⟨f1, hsl, hf⟩ := SLh.mem hm hw.2.2.2
  rcases hsl with ⟨hv, h0, hx0⟩ | ⟨b, k', rest, hv, hl, hr, hrow⟩
  · cases hv
    have hl0 : l = [] := by cases l with | nil => rfl | cons _ _ => cases hx0
    subst hl0
    have := DP.cbs0 (P := P) (d := d) (ty := ty) (pos := pos) (af := af) (g := g) hx ht ht' he
    unfold DP at this
    exact this.2 w
  · cases hv
    have := D.cbs (P := P) (c := c) (L := [row e' b (l.map byteV ++ rest)]) (d := d) (ty := ty) (pos := pos) (af := af) (g := g) (l := l) hx ht ht' he (by simpa using hl) (.head _ _) (ReadsN.row (fun i v hv => by rw [Nat.zero_add, List.getElem?_append_left (getS_lt hv)]; exact hv))
    unfold D at this
    refine this.2 w ⟨hw.1, hw.2.1, hw.2.2.1, f1, fun _ => none, fun _ => .inr rfl, hf, fun _ _ (h : none = some _) => (nomatch h), hrow, trivial⟩
instance {a b e e' : TypeId} {p : Option Addr} {n k : Nat} {l : List UInt8} [ha : Und P a (.slice e)] [hb : Und P b .string] [he : Und P e (.int .u8)] [hm : SlMem L (.slice p n k) e' 1 n (l.map byteV)] : Re P c L (.conv a b (.slice p n k)) (fun q => q (str l)) :=
  ⟨fun E d op ty pos af g hs q hq => by cases hs with | conv e1 => exact ⟨_, D.cbsE e1 ha.h hb.h he.h hm.h, hq⟩⟩
instance (priority := 900) {a b e e' : TypeId} {p o n k : Nat} {l : List UInt8} [ha : Und P a (.slice e)] [hb : Und P b .string] [he : Und P e (.int .u8)] [hm : RowAt L p e' (l.map byteV)] : Re P c L (.conv a b (.slice (some ⟨p, o, none⟩) n k)) (fun q => Vc (o + n ≤ l.length) (q (str ((l.drop o).take n)))) :=
  ⟨fun E d op ty pos af g hs q hq => by
    cases hs with | conv e1 =>
    have hl := hq.l
    refine ⟨_, D.cbs (l := (l.drop o).take n) e1 ha.h hb.h he.h (by simp; omega) hm.h (ReadsN.row fun i v hv => ?_), hq.r⟩
    rw [List.map_take, List.map_drop] at hv
    exact drop_reads i v hv⟩
instance {t xt e e' : TypeId} {a : Option Addr} {n k by_ : Nat} {xs ys zs : List Value} {l : List UInt8} {z : Value} {C : Prop} [ht : Und P t (.slice e)] [hxt : Und P xt .string] [hz : Sz P e 0] [hb : By P e by_] [hzr : Zr P e z] [hcz : Cel z zs] [hlz : Len zs 1]
    [hd : SlAt L (.slice a n k) e' 1 n xs R] [ha : AppV xs (l.map byteV) ys C] :
    St P c L (.builtin .append [.slice a n k, str l] [t, xt]) (fun q => Vc (e' = e ∧ (n + l.length) * (by_ + 1) ≤ 140737488355328 ∧ C) (∀ a2 k2, q (.slice a2 (n + l.length) k2) (sl e 1 (.slice a2 (n + l.length) k2) (n + l.length) ys :: R))) :=
  ⟨fun r E d op ty pos af g hs q hq => by
    cases hs with | builtin ev =>
    rename_i xs_
    obtain ⟨⟨rfl, hlim, hC⟩, hq⟩ := hq
    match xs_, ev with
    | [x, y], ⟨e1, e3, _⟩ =>
      refine (N.app e1 e3 ht.h hz.h hb.h hzr.h (cellsL_eq z) (by rw [hcz.h]; exact hlz.h) hd.h (Src.str hxt.h rfl) (fun u hu => by obtain ⟨x, _, rfl⟩ := List.mem_map.1 hu; rfl) hlim).imp2 fun v L' w h5 hw => ?_
      subst h5
      obtain ⟨a2, k2, rfl⟩ := hw.sl_form
      rw [ha.h hC]
      exact hq a2 k2⟩
/-! make -/
class RepV (zs : List Value) (n : Nat) (ys : outParam (List Value)) : Prop where h : (List.replicate n zs).flatten = ys
instance (priority := 100) {zs : List Value} {n : Nat} : RepV zs n (List.replicate n zs).flatten := ⟨rfl⟩
theorem rep_map {α : Type} (f : α → Value) (x : α) : ∀ n, (List.replicate n [f x]).flatten = (List.replicate n x).map f
  | 0 => rfl
  | n + 1 => by rw [List.replicate_succ, List.flatten_cons, rep_map f x n, List.replicate_succ]; rfl
instance {n : Nat} : RepV [.int .u8 0] n ((List.replicate n (0 : UInt8)).map byteV) := ⟨rep_map byteV 0 n⟩
instance {t e : TypeId} {k k' : IntKind} {x y : Int} {n sz by_ : Nat} {z : Value} {zs ys : List Value} [ht : Und P t (.slice e)] [hs : Sz P e sz] [hb : By P e by_] [hz : Zr P e z] [hc : Cel z zs] [hl : Len zs (sz + 1)] [hr : RepV zs n ys] [hx : Nn x n] [hy : Nn y n] :
    St P c L (.mkSlice t (.int k x) (.int k' y)) (fun q => Vc (n * (by_ + 1) ≤ 281474976710656) (∀ b, q (.slice (some ⟨b, 0, none⟩) n n) (sl e (sz + 1) (.slice (some ⟨b, 0, none⟩) n n) n ys :: L))) :=
  ⟨fun r E d op ty pos af g hs' q hq => by
    cases hs' with | mkSlice e1 e2 =>
    rw [hx.h] at e1; rw [hy.h] at e2
    refine N.ent (N.mk e1 e2 ht.h hs.h hb.h hz.h (cellsL_eq z) (by rw [hc.h]; exact hl.h) hq.l) ?_
    rintro v L' ⟨b, rfl, rfl⟩
    refine ⟨sl e (sz + 1) (.slice (some ⟨b, 0, none⟩) n n) n ys :: L, ?_, hq.r b⟩
    have h1 : (List.replicate n (cellsL z)).flatten = ys := by rw [hc.h]; exact hr.h
    rw [h1]
    have h2 : ys.length = n * (sz + 1) := by rw [← h1, flatten_rep_length, hc.h, hl.h]
    have h3 := Ent.sl (c := c) (L := L) (e := e) (b := b) (n := n) (sz := sz + 1) (k := 0) (xs := ys) (rest := []) h2 (by simp)
    rw [List.append_nil, Nat.add_zero] at h3
    exact h3⟩
/-! slices made of several parts -/
class RepL (n : Nat) (zs : List Value) (rs : outParam (List Value)) : Prop where h : (List.replicate n zs).flatten = rs
class AppC (a b : List Value) (l : outParam (List Value)) : Prop where h : a ++ b = l
instance {b : List Value} : AppC [] b b := ⟨rfl⟩
instance {x : Value} {a b l : List Value} [h : AppC a b l] : AppC (x :: a) b (x :: l) := ⟨by rw [← h.h]; rfl⟩
instance {zs : List Value} : RepL 0 zs [] := ⟨rfl⟩
instance {n : Nat} {zs rs us : List Value} [h : RepL n zs rs] [h2 : AppC zs rs us] : RepL (n + 1) zs us := ⟨by rw [List.replicate_succ, List.flatten_cons, h.h]; exact h2.h⟩
instance (priority := 900) {t e : TypeId} {n sz m : Nat} {vs : List (Nat × Value)} {z : Value} {zs rs us : List Value} [ht : Und P t (.slice e)] [hz : Sz P e sz] [hr : Zr P e z] [hcz : Cel z zs] [hlz : Len zs (sz + 1)] [hrp : RepL n zs rs] [hf : FilA (sz + 1) rs vs us] [hlu : Len us m] : St P c L (.buildSlice t n vs) (fun k => Vc (n * (sz + 1) ≤ 16777216 ∧ m = n * (sz + 1)) (∀ b, k (.slice (some ⟨b, 0, none⟩) n n) (sl e (sz + 1) (.slice (some ⟨b, 0, none⟩) n n) n us :: L))) :=
  ⟨fun r E d op ty pos af g hs k hk => by
    cases hs with | buildSlice e1 =>
    exact N.ent (N.bsL e1 ht.h hz.h hr.h (by rw [hcz.h]; exact hlz.h) hk.l.1 (by rw [hcz.h, hrp.h]; exact hf.h)) fun v L' hq => by
      obtain ⟨b, h1, h2⟩ := hq
      rw [h1, h2]
      exact ⟨_, Ent.slP (by rw [hlu.h]; exact hk.l.2), hk.r b⟩⟩
end
end Pw


namespace Pw
open Go
abbrev vU64 (n : Nat) : Value := .int .u64 (n : Int)
abbrev vU32 (n : Nat) : Value := .int .u32 (n : Int)
abbrev vU8 (n : Nat) : Value := .int .u8 (n : Int)
abbrev vI (n : Nat) : Value := .int .i64 (n : Int)
/-- One list behind another: seen through. -/
@[reducible] def appR : List Assn → List Assn → List Assn
  | [], R => R
  | A :: l, R => A :: appR l R
theorem appR_eq : ∀ l R : List Assn, appR l R = l ++ R
  | [], _ => rfl
  | A :: l, R => by rw [appR, appR_eq l R]; rfl
class PickC (As L : List Assn) (R : outParam (List Assn)) : Prop where h : Pick As L R
instance {L : List Assn} : PickC [] L L := ⟨.nil L⟩
instance {A : Assn} {As L M R : List Assn} [h1 : DelC A L M] [h2 : PickC As M R] : PickC (A :: As) L R := ⟨.cons h1.h h2.h⟩
section
variable {P : Program} {r : Rd} {c : Ctx} {L : List Assn} {Q : Exit → Env → Rd → World → Prop} {E : Env}
/-- A loop: what is kept besides is found. -/
theorem T.lpa (id : Nat) {n : Nat} {l0 : List (Nat × Value)} {g0 : Nat → Value} {S : Type} {x : Code} (K : List (Nat × Value)) (s0 : S) (sl : S → List (Nat × Value)) (H : S → List Assn) (I : S → Prop) (μ : S → Nat) {R : List Assn} [hp : PickC (H s0) L R]
    (hI : I s0) (round : ∀ s g, I s → T P r c (appR (H s) R) x (loopQ r c n (fun s => sl s ++ K) (fun s => appR (H s) R) I μ s (blockQ id Q)) ⟨n, sl s ++ K, g⟩)
    (hK : Env.has ⟨n, l0, g0⟩ K := by repeat' first | exact trivial | refine ⟨?_, ?_⟩ | (conv => lhs; whnf)) (hsl : Env.has ⟨n, l0, g0⟩ (sl s0) := by repeat' first | exact trivial | refine ⟨?_, ?_⟩ | rfl) : T P r c L (.block id (.loop x)) Q ⟨n, l0, g0⟩ :=
  T.lp id K s0 sl (fun s => appR (H s) R) I μ hK hsl hI (by rw [appR_eq]; exact Ent.perm hp.h.perm) round
theorem TQ.rda {S : Type} {n : Nat} {sl : S → List (Nat × Value)} {H : S → List Assn} {I : S → Prop} {μ : S → Nat} {s : S} (s' : S) [hL : ImC L (H s')]
    (hI : I s') (hμ : μ s' < μ s) (hn : E.n = n := by rfl) (hsl : E.has (sl s') := by repeat' first | exact trivial | refine ⟨?_, ?_⟩ | rfl) : TQ r c L (loopQ r c n sl H I μ s Q) .normal E := TQ.rd s' hn hsl hI hμ (Ent.imp hL.h)
/-- A cut behind a block. -/
theorem T.cutb (id : Nat) {n : Nat} {l0 : List (Nat × Value)} {g0 : Nat → Value} {S : Type} {x y : Code} (sl : S → List (Nat × Value)) (H : S → List Assn) (I : S → Prop)
    (h : T P r c L (.block id x) (cutQ r c n sl H I Q) ⟨n, l0, g0⟩) (k : ∀ s g, I s → T P r c (H s) y Q ⟨n, sl s, g⟩) : T P r c L (.seq (.block id x) y) Q ⟨n, l0, g0⟩ := T.cut sl H I h k
theorem T.cutt (id : Nat) {n : Nat} {l0 : List (Nat × Value)} {g0 : Nat → Value} {S : Type} {x y : Code} (sl : S → List (Nat × Value)) (H : S → List Assn) (I : S → Prop)
    (h : T P r c L (.block id x) (cutQ r c n sl H I Q) ⟨n, l0, g0⟩) (k : ∀ s g, I s → T P r c (H s) y Q ⟨n, sl s, g⟩) : T P r c L (.block id x) (thenQ P r y Q) ⟨n, l0, g0⟩ := by
  unfold T at *
  intro w hw
  refine wpIn_mono (h w hw) ?_
  rintro e a w' ⟨E', r', rfl, hq⟩
  cases e with
  | normal =>
    obtain ⟨rfl, s, en, hh, hI, hw'⟩ := hq
    refine ⟨_, _, Env.acd_congr (E'.act_has (sl s) hh) _, ?_⟩
    rw [en]
    exact k s _ hI w' hw'
  | _ => exact ⟨E', r', rfl, hq⟩
theorem TQ.cna {S : Type} {n : Nat} {sl : S → List (Nat × Value)} {H : S → List Assn} {I : S → Prop} (s : S) [hL : ImC L (H s)] (hI : I s) (hn : E.n = n := by rfl) (hsl : E.has (sl s) := by repeat' first | exact trivial | refine ⟨?_, ?_⟩ | rfl) : TQ r c L (cutQ r c n sl H I Q) .normal E := TQ.cn s hn hsl hI (Ent.imp hL.h)
/-- Rounds one by one. -/
def unrQ (P : Program) (r : Rd) (x : Code) (Q : Exit → Env → Rd → World → Prop) : Nat → Exit → Env → Rd → World → Prop
  | 0, .normal, _, _, _ => False
  | m + 1, .normal, E, r', w => x.wpIn (Wf r) 0 P (lift (unrQ P r x Q m)) (E.acd r') w
  | _, .exit i, E, r', w => Q (.exit i) E r' w
  | _, .goto i, E, r', w => Q (.goto i) E r' w
  | _, .ret, E, r', w => Q .ret E r' w
  | _, .panic ch, E, r', w => Q (.panic ch) E r' w
  | _, .outgrown, E, r', w => Q .outgrown E r' w
theorem unrQ_rounds {x : Code} : ∀ (m : Nat) (a : Act) (w : World), x.wpIn (Wf r) 0 P (lift (unrQ P r x Q m)) a w → Code.roundsIn (Wf r) 0 P x (lift Q) (m + 1) a w
  | 0, a, w, h => wpIn_mono h (by
      rintro e a' w' ⟨E', r', rfl, hq⟩
      cases e with
      | normal => exact hq.elim
      | _ => exact ⟨E', r', rfl, hq⟩)
  | m + 1, a, w, h => wpIn_mono h (by
      rintro e a' w' ⟨E', r', rfl, hq⟩
      cases e with
      | normal => exact unrQ_rounds m _ _ hq
      | _ => exact ⟨E', r', rfl, hq⟩)
theorem T.unr (m : Nat) {x : Code} (h : T P r c L x (unrQ P r x Q m) E) : T P r c L (.loop x) Q E := by
  unfold T at *
  exact fun w hw => wpIn_loop_rounds (m + 1) (unrQ_rounds m _ _ (h w hw))
instance {x : Code} {m : Nat} : Go1 (TQ r c L (unrQ P r x Q (m + 1)) .normal E) (T P r c L x (unrQ P r x Q m) E) := ⟨fun h => by unfold TQ; unfold T at h; exact fun w hw => h w hw⟩
instance {x : Code} {m i : Nat} : Go1 (TQ r c L (unrQ P r x Q m) (.exit i) E) (TQ r c L Q (.exit i) E) := ⟨fun h => by unfold TQ at *; exact fun w hw => by cases m <;> exact h w hw⟩
instance {x : Code} {m : Nat} : Go1 (TQ r c L (unrQ P r x Q m) .ret E) (TQ r c L Q .ret E) := ⟨fun h => by unfold TQ at *; exact fun w hw => by cases m <;> exact h w hw⟩
instance {x : Code} {m : Nat} [h : CalmC Q] : CalmC (unrQ P r x Q m) := ⟨fun ch E E' r' w hq => (by cases m <;> exact h.h ch E E' r' w hq)⟩
/-- .. in its block -/
theorem T.unb (id m : Nat) {x : Code} (h : T P r c L x (unrQ P r x (blockQ id Q) m) E) : T P r c L (.block id (.loop x)) Q E := T.block (T.unr m h)
end
end Pw


namespace Pw
open Go
/-! ## Functions of the machine's own -/
class Ext (P : Program) (f : FuncId) (args : List Value) (v : outParam Value) (C : outParam Prop) : Prop where h : C → ∀ w, (callFunc f args.toArray).run P w = .ok (.value v) w
section
variable {P : Program}
instance {f : FuncId} {args : List Value} {v : Value} {C : Prop} [h : Ext P f args v C] : Pu P (.call (.func (.func f) #[] #[]) args) (fun q => Vc C (q v)) :=
  ⟨fun E d op ty pos af g hs q hq => by
    cases hs with | call e1 e2 =>
    refine ⟨v, ?_, hq.r⟩
    unfold DP
    refine ⟨fun _ => by simp, fun w => ?_⟩
    have := h.h hq.l w
    simp [execOp, resolve, Deferred.ofValue, e1, invoke, evL.map e2, this]⟩
/-- math/bits.Add64 -/
class IsAdd (P : Program) (f : FuncId) : Prop where h : ∀ args w, (callFunc f args).run P w = (do pure (Next.value (← (Extern.MathBitsCarry.rows.head!).2 args)) : Sem Next).run P w
instance {f : FuncId} {x y z : Int} {a b k : Nat} [hf : IsAdd P f] [h1 : Nn x a] [h2 : Nn y b] [h3 : Nn z k] : Ext P f [.int .u64 x, .int .u64 y, .int .u64 z] (.tuple #[.int .u64 (((a + b + k) % 18446744073709551616 : Nat) : Int), .int .u64 (((a + b + k) / 18446744073709551616 : Nat) : Int)]) (k ≤ 1) :=
  ⟨fun hc w => by
    rw [hf.h, h1.h, h2.h, h3.h]
    have e1 : (Extern.MathBitsCarry.three "Add64" #[.int .u64 (a : Int), .int .u64 (b : Int), .int .u64 (k : Int)]).run P w = .ok (a, b, k) w := by
      rcases (by omega : k = 0 ∨ k = 1) with rfl | rfl <;> rfl
    have e2 : (Extern.MathBitsCarry.rows.head!).2 = (fun args => do
      let (x, y, c) ← Extern.MathBitsCarry.three "Add64" args
      pure (Extern.MathBitsCarry.pair ((x + y + c) % Extern.MathBitsCarry.m64) ((x + y + c) / Extern.MathBitsCarry.m64))) := rfl
    rw [e2]
    simp only [Sem.run_bind, e1, Result.andThen_ok, Sem.run_pure, Extern.MathBitsCarry.pair]
    have e3 : ∀ n : Nat, (Int.ofNat n) = (n : Int) := fun _ => rfl
    simp only [e3, Extern.MathBitsCarry.m64]⟩
end

section
variable {P : Program} {r : Rd} {c : Ctx} {L : List Assn} {Q : Exit → Env → Rd → World → Prop} {E : Env}
instance (priority := 500) {t e : TypeId} {b n : Nat} {cs : List Value} [hp : Ag P t] [hz : Sz P t n] [hr : RowAt L b e cs] : Re P c L (.load t (.pointer (some ⟨b, 0, none⟩))) (fun k => Vc (cs.length = n + 1) (k (.agg cs.toArray))) :=
  ⟨fun E d op ty pos af g hs k hk => by cases hs with | load e1 => exact ⟨_, D.ldRA e1 hp.h hz.h hr.h hk.l, hk.r⟩⟩
class PutRowB (L : List Assn) (b : Nat) (vs : List Value) (L' : outParam (List Assn)) (C : outParam Prop) : Prop where h : C → ∃ e cs, Put (row e b cs) L (row e b vs) L' ∧ cs.length = vs.length
instance (priority := 1100) {L : List Assn} {b : Nat} {vs cs : List Value} {e : TypeId} : PutRowB (row e b cs :: L) b vs (row e b vs :: L) (cs.length = vs.length) := ⟨fun h => ⟨e, cs, .head _ _ _, h⟩⟩
instance {A : Assn} {L L' : List Assn} {b : Nat} {vs : List Value} {C : Prop} [h : PutRowB L b vs L' C] : PutRowB (A :: L) b vs (A :: L') C := ⟨fun hc => let ⟨e, cs, h1, h2⟩ := h.h hc; ⟨e, cs, .tail h1, h2⟩⟩
instance (priority := 500) {t : TypeId} {b n : Nat} {vs : List Value} {L' : List Assn} {C : Prop} [hz : Sz P t n] [h1 : OnesL vs] [hp : PutRowB L b vs L' C] : St P c L (.store t (.pointer (some ⟨b, 0, none⟩)) (.agg vs.toArray)) (fun k => Vc (vs.length = n + 1 ∧ C) (k undef L')) :=
  ⟨fun r E d op ty pos af g hs k hk => by
    cases hs with | store e1 e2 =>
    obtain ⟨e, cs, h3, h4⟩ := hp.h hk.l.2
    have e0 : setAll cs 0 vs = vs := by rw [setAll_eq _ _ _ (by omega)]; simp [h4]
    exact (N.stA (cs := cs) e1 e2 hz.h (by rw [e0]; exact h3) (by omega) h1.h hk.l.1).imp fun _ _ hq => by rw [hq.1, hq.2]; exact hk.r⟩
/-- The end of a function whose result lies in a cell. -/
theorem TQ.finC {fn : Func} {R : List Assn} {B : Value → List Assn → Prop} {C : List PanicEntry → List Assn → Prop} {t b n : Nat} {ty e : TypeId} {us : List Value} [hp : Ag P ty] [hz : Sz P ty n] [hrow : RowAt L b e us]
    (h : Vc (us.length = n + 1) (Fini c L R B (.agg us.toArray))) (hr : fn.results = #[.cell t ty] := by rfl) (ht : E.get t = .pointer (some ⟨b, 0, none⟩) := by rfl) : TQ R0 c L (retQ P fn c R B C) .ret E := by
  obtain ⟨hl, h⟩ := h
  unfold Fini at h
  obtain ⟨L', h3, h4⟩ := h
  exact TQ.ret (vs := [.agg us.toArray]) hr ⟨RV.atA ht hp.h hz.h hrow.h hl, rfl⟩ h3 h4
end
end Pw


namespace Pw
open Go
/-! ## copy, little tools for bytes in rows -/
section
variable {P : Program} {r : Rd} {c : Ctx} {L R : List Assn} {Q : Exit → Env → Rd → World → Prop} {E : Env}
instance (priority := 700) {xs ys : List Value} {j : Nat} {v : Value} {C : Prop} [h : ElV xs j v C] : ElV (xs ++ ys) j v (C ∧ j < xs.length) := ⟨fun hc => by rw [List.getElem?_append_left hc.2]; exact h.h hc.1⟩
/-- A slice that owns its array is opened. -/
theorem T.osl {code : Code} {e : TypeId} {n k : Nat} {a : Option Addr} {xs : List Value} (hn : 0 < n)
    (h : ∀ b j rest, a = some ⟨b, 0, none⟩ → k = n + j → rest.length = j → xs.length = n → T P r c (row e b (xs ++ rest) :: R) code Q E)
    (hd : Del (sl e 1 (.slice a n k) n xs) L R := by repeat (first | exact Del.head _ _ | apply Del.tail)) : T P r c L code Q E :=
  T.open_sl hd (fun _ h2 _ => by omega) (fun b j rest h1 h2 h3 => by
    simp only [Value.slice.injEq] at h1
    exact h b j rest h1.1 h1.2.2 (by simpa using h3) (by simpa using h2))
class RowDel (L : List Assn) (b : Nat) (e : outParam TypeId) (cs : outParam (List Value)) (R : outParam (List Assn)) : Prop where h : Del (row e b cs) L R
instance (priority := 1100) {L : List Assn} {b : Nat} {e : TypeId} {cs : List Value} : RowDel (row e b cs :: L) b e cs L := ⟨.head _ _⟩
instance {A : Assn} {L R : List Assn} {b : Nat} {e : TypeId} {cs : List Value} [h : RowDel L b e cs R] : RowDel (A :: L) b e cs (A :: R) := ⟨.tail h.h⟩
theorem Del.put {A B : Assn} : ∀ {L R : List Assn}, Del A L R → ∃ L', Put A L B L' ∧ Del B L' R
  | _, _, .head _ L => ⟨_, .head _ _ _, .head _ _⟩
  | _, _, .tail h => let ⟨L', h1, h2⟩ := Del.put h; ⟨_, .tail h1, .tail h2⟩
/-- Where a copy comes from. -/
class SrcA (P : Program) (L : List Assn) (sz : Nat) (xt : TypeId) (xv : Value) (m : outParam Nat) (news : outParam (List Value)) (C : outParam Prop) : Prop where h : C → ∀ {c : Ctx} {r : Rd} {E : Env} {o : Oper} {k : Value → List Assn → Prop}, (Src P c L sz xt xv m news → N P r c L E o k) → N P r c L E o k
instance {sz : Nat} {xt : TypeId} {l : List UInt8} [ht : Und P xt .string] : SrcA P L sz xt (str l) l.length (l.map byteV) (sz = 1) := ⟨fun hs _ _ _ _ _ k => k (Src.str ht.h hs)⟩
instance {sz sz' m k : Nat} {xt e e' : TypeId} {a : Option Addr} {xs : List Value} [ht : Und P xt (.slice e)] [hm : SlMem L (.slice a m k) e' sz' m xs] : SrcA P L sz xt (.slice a m k) m xs (sz = sz') := ⟨fun hs _ _ _ _ _ kk => by subst hs; exact srcOfSl' hm.h fun hl => kk (srcOfSl ht.h hm.h hl)⟩
instance (priority := 900) {sz m k b o : Nat} {xt e e' : TypeId} {xs : List Value} [ht : Und P xt (.slice e)] [hm : RowAt L b e' xs] : SrcA P L sz xt (.slice (some ⟨b, o, none⟩) m k) m ((xs.drop o).take m) (sz = 1 ∧ o + m ≤ xs.length) := ⟨fun hs _ _ _ _ _ kk => by
  refine kk (Src.sl ht.h (by rw [List.length_take, List.length_drop, hs.1]; omega) hm.h (ReadsN.row fun i v hv => ?_))
  have hi := getS_lt hv
  rw [List.length_take, List.length_drop] at hi
  rw [List.getElem?_take, if_pos (by omega), List.getElem?_drop] at hv
  exact hv⟩
theorem N.cpR {d : Option Tmp} {ty : TypeId} {pos : String} {af : Array Edge} {g : Option (Nat × Bool)} {x y : Operand} {b o n cap m sz : Nat} {t xt e e' : TypeId} {xv : Value} {cs news : List Value} (hx : E.eval x = .slice (some ⟨b, o, none⟩) n cap) (hy : E.eval y = xv) (ht : P.underlying t = some (.slice e)) (hsz : P.cellsOf e = sz + 1)
    (hs : Src P c L (sz + 1) xt xv m news) (h1 : ∀ u ∈ news.take (min m n * (sz + 1)), u.oneCell' = true) (hd : Del (row e' b cs) L R) (ho : o + min m n * (sz + 1) ≤ cs.length) :
    N P r c L E ⟨d, .call ⟨.builtin .copy, #[x, y], #[t, xt]⟩, ty, pos, af, g⟩ (fun v L'' => v = .int .i64 ((min m n : Nat) : Int) ∧ L'' = row e' b (setAll cs o (news.take (min m n * (sz + 1)))) :: R) := by
  refine N.value (fun _ => by simp) fun w hw => ?_
  obtain ⟨w', k1, k2⟩ := SL.storeCells (P := P) (news.take (min m n * (sz + 1))) cs o 0 w R (hw.perm hd.perm) h1 (by rw [List.length_take]; omega)
  refine ⟨.int .i64 ((min m n : Nat) : Int), _, w', ?_, ⟨rfl, rfl⟩, by simpa using k2⟩
  have hmn : Nat.min m n = min m n := rfl
  have hrun : (execOp E.eval ⟨d, .call ⟨.builtin .copy, #[x, y], #[t, xt]⟩, ty, pos, af, g⟩).run P w = ((Builtin.copy_ #[t, xt] ty #[.slice (some ⟨b, o, none⟩) n cap, xv]).run P w).andThen (fun a w' => Result.ok (Next.value a) w') := by
    simp [execOp, resolve, invoke, builtin, hx, hy]
  rw [hrun]
  simp only [Builtin.copy_, List.getElem?_toArray, List.getElem?_cons_zero, List.getElem?_cons_succ]
  simp only [Sem.run_bind, Sem.run_pure, Result.andThen_ok, run_underlying ht, hs.len, run_sizeOf hsz, hmn, hs.first w hw _ (Nat.min_le_left m n)]
  rw [k1]
  simp [goInt]
/-- Elements written over others. -/
def putL {α : Type} (l : List α) (o : Nat) (xs : List α) : List α := l.take o ++ xs ++ l.drop (o + xs.length)
theorem putL_len {α : Type} {l : List α} {o : Nat} {xs : List α} (h : o + xs.length ≤ l.length) : (putL l o xs).length = l.length := by
  simp [putL]; omega
class SetA (cs : List Value) (o : Nat) (news : List Value) (cs' : outParam (List Value)) (C : outParam Prop) : Prop where h : C → setAll cs o news = cs' ∧ (∀ u ∈ news, u.oneCell' = true) ∧ o + news.length ≤ cs.length
instance {l xs : List UInt8} {o : Nat} : SetA (l.map byteV) o (xs.map byteV) ((putL l o xs).map byteV) (o + xs.length ≤ l.length) := ⟨fun h => ⟨by rw [setAll_eq _ _ _ (by simpa using h)]; simp [putL, List.map_take, List.map_drop], fun u hu => (by obtain ⟨x, _, rfl⟩ := List.mem_map.1 hu; rfl), by simpa using h⟩⟩
instance {l xs : List UInt8} {o p m : Nat} : SetA (l.map byteV) o (((xs.map byteV).drop p).take m) ((putL l o ((xs.drop p).take m)).map byteV) (o + ((xs.drop p).take m).length ≤ l.length) := ⟨fun h => ⟨by rw [← List.map_drop, ← List.map_take, setAll_eq _ _ _ (by simpa using h)]; simp [putL, List.map_take, List.map_drop], fun u hu => (by rw [← List.map_drop, ← List.map_take] at hu; obtain ⟨x, _, rfl⟩ := List.mem_map.1 hu; rfl), by simpa using h⟩⟩
instance (priority := 1100) {t xt e e' : TypeId} {b o n k m : Nat} {xv : Value} {cs cs' news : List Value} {C D : Prop} [ht : Und P t (.slice e)] [hz : Sz P e 0] [hr : RowDel L b e' cs R] [hs : SrcA P L 1 xt xv m news C] [hp : SetA cs o news cs' D] :
    St P c L (.builtin .copy [.slice (some ⟨b, o, none⟩) n k, xv] [t, xt]) (fun q => Vc (m ≤ n ∧ news.length = m ∧ C ∧ D) (q (.int .i64 (m : Nat)) (row e' b cs' :: R))) :=
  ⟨fun r E d op ty pos af g hh q hq => by
    cases hh with | builtin ev =>
    rename_i xs_
    obtain ⟨⟨h1, h2, h3, h4⟩, hq⟩ := hq
    match xs_, ev with
    | [x, y], ⟨e1, e3, _⟩ =>
      refine hs.h h3 fun hsrc => ?_
      obtain ⟨g1, g2, g3⟩ := hp.h h4
      have hmin : min m n = m := by omega
      have ht1 : news.take (min m n * (0 + 1)) = news := by rw [hmin]; exact List.take_of_length_le (by omega)
      exact (N.cpR e1 e3 ht.h hz.h hsrc (by rw [ht1]; exact g2) hr.h (by rw [hmin]; omega)).imp fun v L2 h5 => by
        rw [h5.1, h5.2, ht1, g1, hmin]; exact hq⟩
instance {α : Type} {n : Nat} {a : α} : Len (List.replicate n a) n := ⟨by simp⟩
instance {n : Nat} {v : Value} [h : One v] : OnesL (List.replicate n v) := ⟨fun u hu => by rw [(List.mem_replicate.1 hu).2]; exact h.h⟩
/-! 32 bits -/
class Lt32 (x : Nat) : Prop where h : x < 4294967296
instance {x : Nat} : Lt32 (x % 4294967296) := ⟨Nat.mod_lt _ (by decide)⟩
instance {x y : Nat} [h1 : Lt32 x] [h2 : Lt32 y] : Lt32 (x ^^^ y) := ⟨Nat.xor_lt_two_pow (n := 32) h1.h h2.h⟩
class B32 (l : List Nat) : Prop where h : ∀ j, gt l j < 4294967296
instance {l : List Nat} {j : Nat} [h : B32 l] : Lt32 (gt l j) := ⟨h.h j⟩
instance {l : List Nat} {j x : Nat} [h : B32 l] [hx : Lt32 x] : B32 (l.set j x) := ⟨fun i => by
  have h1 := h.h i
  unfold gt at *
  rw [List.getD_eq_getElem?_getD] at *
  rw [List.getElem?_set]
  split
  · split
    · exact hx.h
    · decide
  · exact h1⟩
class Ln {α : Type} (l : List α) (n : outParam Nat) : Prop where h : l.length = n
instance {α : Type} {l : List α} {j n : Nat} {x : α} [h : Ln l n] : Ln (l.set j x) n := ⟨by rw [List.length_set]; exact h.h⟩
theorem lt_ln {α : Type} {l : List α} {i n : Nat} [h : Ln l n] (hi : i < n) : i < l.length := by rw [h.h]; exact hi
instance {n : Nat} : Inv vU32 (.int .u32 ((n : Nat) : Int)) n True := ⟨fun _ => rfl⟩
instance {n : Nat} : Inv vU64 (.int .u64 ((n : Nat) : Int)) n True := ⟨fun _ => rfl⟩
/-! Literal bytes -/
class BL (us : List Value) (m : outParam (List UInt8)) (C : outParam Prop) : Prop where h : C → us = m.map byteV
instance : BL [] [] True := ⟨fun _ => rfl⟩
instance {x : Int} {k : Nat} {us : List Value} {m : List UInt8} {C : Prop} [hx : Nn x k] [h : BL us m C] : BL (.int .u8 x :: us) (UInt8.ofNat k :: m) (k < 256 ∧ C) := ⟨fun hc => by
  rw [h.h hc.2, hx.h]
  simp [byteV, Nat.mod_eq_of_lt hc.1]⟩
instance (priority := 600) {us : List Value} {l m : List UInt8} {C : Prop} [h : BL us m C] : AppV us (l.map byteV) ((m ++ l).map byteV) C := ⟨fun hc => by rw [h.h hc]; simp⟩
/-- Bytes to bytes. -/
theorem N.cvs {d : Option Tmp} {ty : TypeId} {pos : String} {af : Array Edge} {g : Option (Nat × Bool)} {x : Operand} {a : Option Addr} {n k : Nat} {t e e' : TypeId} {xs : List Value} (hx : E.eval x = .slice a n k) (ht : P.underlying t = some (.slice e)) (he : P.underlying e = some (.int .u8)) (hd : Del (sl e' 1 (.slice a n k) n xs) L R) (hn : 0 < n) :
    N P r c L E ⟨d, .convert t t x, ty, pos, af, g⟩ (fun v L' => v = .slice a n k ∧ L' = sl e' 1 (.slice a n k) n xs :: R) := by
  unfold N
  intro w hw K Q hK
  obtain ⟨e1, e2, e3, f1, f2, hdj, hf1, hf2, hsl, hl⟩ := hw.perm hd.perm
  rcases hsl with ⟨hv, h0, hxs⟩ | ⟨b, j, rest, hv, hxl, hrl, hrow⟩
  · omega
  · have hw' : SL c (row e' b (xs ++ rest) :: R) w := ⟨e1, e2, e3, f1, f2, hdj, hf1, hf2, hrow, hl⟩
    rw [hv] at hx
    have h1 := N.cvb (P := P) (r := r) (c := c) (d := d) (ty := ty) (pos := pos) (af := af) (g := g) (e' := e') (cs := xs ++ rest) hx ht he (Del.head _ R)
    unfold N at h1
    refine h1 w hw' K Q fun v L' w' hq hw2 => ?_
    refine hK v _ w' ⟨by rw [hq.1, hv], rfl⟩ ?_
    rw [hq.2] at hw2
    rw [hv]
    exact Ent.sl hxl hrl w' hw2
instance {t e e' : TypeId} {a : Option Addr} {n k : Nat} {xs : List Value} [ht : Und P t (.slice e)] [he : Und P e (.int .u8)] [hd : SlAt L (.slice a n k) e' 1 n xs R] : St P c L (.conv t t (.slice a n k)) (fun q => Vc (0 < n) (q (.slice a n k) (sl e' 1 (.slice a n k) n xs :: R))) :=
  ⟨fun r E d op ty pos af g hs q hq => by
    cases hs with | conv e1 =>
    exact (N.cvs e1 ht.h he.h hd.h hq.l).imp fun v L' h => by rw [h.1, h.2]; exact hq.r⟩
end
end Pw


namespace Pw
open Go
section
variable {P : Program} {r : Rd} {c : Ctx} {L R : List Assn} {Q : Exit → Env → Rd → World → Prop} {E : Env}
/-- A cut behind a block, at one state: what it is is found at its end. -/
theorem T.cutx (id : Nat) {n : Nat} {l0 : List (Nat × Value)} {g0 : Nat → Value} {S : Type} {x y : Code} (K : List (Nat × Value)) (s0 : S) (sl : S → List (Nat × Value)) (H : S → List Assn) {s : S} [hp : PickC (H s0) L R]
    (h : T P r c (appR (H s0) R) (.block id x) (cutQ r c n (fun s => sl s ++ K) (fun s => appR (H s) R) (fun t => t = s) Q) ⟨n, l0, g0⟩) (k : ∀ g, T P r c (appR (H s) R) y Q ⟨n, sl s ++ K, g⟩)
    (hK : Env.has ⟨n, l0, g0⟩ K := by repeat' first | exact trivial | refine ⟨?_, ?_⟩ | (conv => lhs; whnf)) : T P r c L (.block id x) (thenQ P r y Q) ⟨n, l0, g0⟩ :=
  T.ent (by rw [appR_eq]; exact Ent.perm hp.h.perm) (T.cutt id (fun s => sl s ++ K) (fun s => appR (H s) R) (fun t => t = s) h (fun t g ht => by subst ht; exact k g))
def codeBlk : Nat → Code → Option Code
  | i, .seq a b => match codeBlk i a with
    | some c => some c
    | none => codeBlk i b
  | i, .block j x => match Nat.beq j i with
    | true => some (.block j x)
    | false => codeBlk i x
  | i, .cond _ a b => match codeBlk i a with
    | some c => some c
    | none => codeBlk i b
  | i, .loop x => codeBlk i x
  | i, .scope x => codeBlk i x
  | i, .rangeFunc _ _ a b => match codeBlk i a with
    | some c => some c
    | none => codeBlk i b
  | _, _ => none
/-- A block of a function. -/
def blkOf (f : Func) (i : Nat) : Code := match f.body with
  | some x => match codeBlk i x with
    | some y => y
    | none => .skip
  | none => .skip
theorem T.code {x y : Code} (h : T P r c L y Q E) (e : x = y := by conv => lhs; whnf) : T P r c L x Q E := e ▸ h
/-- Guards: quick to fail. -/
theorem T.atR (id : Nat) {ops : Array Oper} {dr : Bool} (h : T P r c L (.region id ops dr) Q E) : T P r c L (.region id ops dr) Q E := h
theorem T.atB (id : Nat) {x : Code} (h : T P r c L (.block id x) Q E) : T P r c L (.block id x) Q E := h
theorem TQ.atC {n : Nat} {S : Type} {sl : S → List (Nat × Value)} {H : S → List Assn} {I : S → Prop} (h : TQ r c L (cutQ r c n sl H I Q) .normal E) : TQ r c L (cutQ r c n sl H I Q) .normal E := h
theorem T.cutg {n : Nat} {l0 : List (Nat × Value)} {g0 : Nat → Value} {S : Type} {x y : Code} (sl : S → List (Nat × Value)) (H : S → List Assn) (I : S → Prop)
    (h : T P r c L x (cutQ r c n sl H I Q) ⟨n, l0, g0⟩) (k : ∀ s g, I s → T P r c (H s) y Q ⟨n, sl s, g⟩) : T P r c L x (thenQ P r y Q) ⟨n, l0, g0⟩ := by
  unfold T at *
  intro w hw
  refine wpIn_mono (h w hw) ?_
  rintro e a w' ⟨E', r', rfl, hq⟩
  cases e with
  | normal =>
    obtain ⟨rfl, s, en, hh, hI, hw'⟩ := hq
    refine ⟨_, _, Env.acd_congr (E'.act_has (sl s) hh) _, ?_⟩
    rw [en]
    exact k s _ hI w' hw'
  | _ => exact ⟨E', r', rfl, hq⟩
/-- A cut behind a region: what it leaves is a new name, with its equation. -/
theorem T.cutr (id : Nat) {n : Nat} {l0 : List (Nat × Value)} {g0 : Nat → Value} {S : Type} {ops : Array Oper} {dr : Bool} {y : Code} (K : List (Nat × Value)) (s0 : S) (sl : S → List (Nat × Value)) (H : S → List Assn) {s : S} [hp : PickC (H s0) L R]
    (hK : Env.has ⟨n, l0, g0⟩ K)
    (h : T P r c (appR (H s0) R) (.region id ops dr) (cutQ r c n (fun s => sl s ++ K) (fun s => appR (H s) R) (fun t => t = s) Q) ⟨n, l0, g0⟩) (k : ∀ t g, t = s → T P r c (appR (H t) R) y Q ⟨n, sl t ++ K, g⟩) : T P r c L (.region id ops dr) (thenQ P r y Q) ⟨n, l0, g0⟩ :=
  T.ent (by rw [appR_eq]; exact Ent.perm hp.h.perm) (T.cutg (fun s => sl s ++ K) (fun s => appR (H s) R) (fun t => t = s) h k)
theorem T.cutk (id : Nat) {n : Nat} {l0 : List (Nat × Value)} {g0 : Nat → Value} {S : Type} {x y : Code} (K : List (Nat × Value)) (s0 : S) (sl : S → List (Nat × Value)) (H : S → List Assn) {s : S} [hp : PickC (H s0) L R]
    (hK : Env.has ⟨n, l0, g0⟩ K)
    (h : T P r c (appR (H s0) R) (.block id x) (cutQ r c n (fun s => sl s ++ K) (fun s => appR (H s) R) (fun t => t = s) Q) ⟨n, l0, g0⟩) (k : ∀ t g, t = s → T P r c (appR (H t) R) y Q ⟨n, sl t ++ K, g⟩) : T P r c L (.block id x) (thenQ P r y Q) ⟨n, l0, g0⟩ :=
  T.ent (by rw [appR_eq]; exact Ent.perm hp.h.perm) (T.cutg (fun s => sl s ++ K) (fun s => appR (H s) R) (fun t => t = s) h k)
theorem T.norm {n : Nat} {l0 K : List (Nat × Value)} {g0 : Nat → Value} {x : Code} (hK : Env.has ⟨n, l0, g0⟩ K) (h : ∀ g, T P r c L x Q ⟨n, K, g⟩) : T P r c L x Q ⟨n, l0, g0⟩ := by
  have h1 := h (Env.get ⟨n, l0, g0⟩)
  unfold T at *
  intro w hw
  rw [Env.acd_congr (Env.act_has _ K hK) r]
  exact h1 w hw
/-- A block that has a lemma of its own. -/
theorem T.useB (id : Nat) {n : Nat} {l0 K : List (Nat × Value)} {g0 : Nat → Value} {S : Type} {x x' y : Code} {H : S → List Assn} {I : S → Prop} {A : Assn} [hd : DelC A L R] (h : ∀ g, T P r c (A :: R) x' (cutQ r c n (fun _ => K) H I Q) ⟨n, K, g⟩) (k : ∀ s g, I s → T P r c (H s) y Q ⟨n, K, g⟩)
    (hK : Env.has ⟨n, l0, g0⟩ K := by repeat' first | exact trivial | refine ⟨?_, ?_⟩ | (conv => lhs; whnf)) (e : .block id x = x' := by conv => rhs; whnf) : T P r c L (.block id x) (thenQ P r y Q) ⟨n, l0, g0⟩ :=
  T.ent (Ent.perm hd.h.perm) (T.norm hK fun g => T.cutg (fun _ => K) H I (e ▸ h g) k)
theorem flat_sub {α : Type} [Inhabited α] {f : α → List Value} {k : Nat} (hf : ∀ x, (f x).length = k) {l : List α} {i : Nat} (hi : i < l.length) : ((l.flatMap f).take (i * k + k)).drop (i * k) = f (gt l i) := by
  apply List.ext_getElem?
  intro j
  rw [List.getElem?_drop, List.getElem?_take]
  by_cases hj : j < k
  · rw [if_pos (by omega)]
    have h1 : j < (f (gt l i)).length := by rw [hf]; exact hj
    rw [List.getElem?_eq_getElem h1]
    exact flat_elem hf (gt_get hi) j _ (List.getElem?_eq_getElem h1)
  · rw [if_neg (by omega), List.getElem?_eq_none (by rw [hf]; omega)]
instance {α : Type} [Inhabited α] {f : α → List Value} {l : List α} {t e : TypeId} {k : IntKind} {x : Int} {i len n : Nat} [ht : Und P t (.array len e)] [hp : Ag P e] [hz : Sz P e n] [hf : FLen f (n + 1)] [hx : Nn x i] : Pu P (.index t (.agg (l.flatMap f).toArray) (.int k x)) (fun q => Vc (i < len ∧ i < l.length) (q (.agg (f (gt l i)).toArray))) :=
  ⟨fun E d op ty pos af g hs q hq => by
    cases hs with | index e1 e2 =>
    rw [hx.h] at e2
    have h1 := DP.ixaA (d := d) (ty := ty) (pos := pos) (af := af) (g := g) e1 e2 ht.h hp.h hz.h hq.l.1
    refine ⟨_, DP.to h1 ?_, hq.r⟩
    rw [← flat_sub hf.h hq.l.2]
    simp [List.drop_take]⟩
end
end Pw


namespace Pw
open Go
/-! ## Yields, from within and from without -/
section
variable {P : Program} {r : Rd} {c : Ctx} {L R : List Assn} {E : Env} {Q : Exit → Env → Rd → World → Prop} {l : Nat} {o : Loop} {B : List Assn → Prop} {body : Code}
instance : CalmC (endQ c l o R B) := ⟨fun _ _ _ _ _ h => h.elim⟩
instance : CalmC (thenR P c l o body Q) := ⟨fun _ _ _ _ _ h => h.elim⟩
theorem TQ.thenR (h : T P ⟨some l, [], []⟩ c (pt l (.loop (busy o)) :: L) body Q E) : TQ ⟨some l, [], []⟩ c (pt l (.loop o) :: L) (thenR P c l o body Q) .normal E := by
  unfold TQ
  intro w hw
  exact ⟨L, hw, rfl, h⟩
theorem TQ.endR {L1 : List Assn} (hB : B L1) (hL : Ent c L (pt l (.loop (busy o)) :: (L1 ++ R))) : TQ r c L (endQ c l o R B) .normal E := by
  unfold TQ
  intro w hw
  exact ⟨L1, hB, hL w hw⟩
theorem Yl.of1 {n t : Nat} {le : List (Nat × Value)} {ge : Nat → Value} {f : FuncId} {assign body : Code} {m : Nat} {v : Value} {A : List Assn}
    (h : ∀ R, T P ⟨some l, [], []⟩ c (pt l (.loop (lrec f ⟨n, le, ge⟩ #[t] assign body m)) :: (A ++ R)) assign (Pw.thenR P c l (lrec f ⟨n, le, ge⟩ #[t] assign body m) body (endQ c l (lrec f ⟨n, le, ge⟩ #[t] assign body m) R B)) ⟨n, (t, v) :: le, ge⟩) :
    Yl P c l (lrec f ⟨n, le, ge⟩ #[t] assign body m) [v] A B := fun R => ⟨⟨n, (t, v) :: le, ge⟩, by
  have h1 := Env.act_put ⟨n, le, ge⟩ (some t) v
  have h2 := congrArg Act.tmps h1
  refine h2.symm.trans ?_
  simp [lrec, Act.put], h R⟩
theorem Pick.app : ∀ (A R : List Assn), Pick A (A ++ R) R
  | [], R => .nil R
  | X :: A, R => .cons (.head _ _) (Pick.app A R)
theorem perm2 {X Y : Assn} {A R : List Assn} : (X :: Y :: (A ++ R)).Perm (A ++ (X :: Y :: R)) :=
  ((List.Perm.cons X (List.perm_middle.symm : (Y :: (A ++ R)).Perm (A ++ Y :: R)))).trans (List.perm_middle.symm)
theorem TO.yl {nt ds : Nat} {le : List (Nat × Value)} {gb : Nat → Value} {ops : Array Oper} {rest : List Oper} {fo : Operand} {x : Operand} {ats : Array TypeId} {ty : TypeId} {pos : String} {af : Array Edge} {v v' : Value} {A : List Assn} {X Y : Assn}
    (hy : Yl P c l o [v'] A B) (hv : v = v') (hn : 1 = o.params.size) (hs : o.state = .ready) (hpd : o.pending = none)
    (k : ∀ L1, B L1 → TO P r c (pt l (.loop o) :: X :: Y :: (L1 ++ R)) ops Q rest ⟨nt, (ds, .bool true) :: le, gb⟩)
    (hf : Env.eval ⟨nt, le, gb⟩ fo = .func (.yield l) #[] #[] := by rfl) (ha : Env.eval ⟨nt, le, gb⟩ x = v := by conv => lhs; whnf) :
    TO P r c (pt l (.loop o) :: X :: Y :: (A ++ R)) ops Q (⟨some ds, .call ⟨.value fo, #[x], ats⟩, ty, pos, af, none⟩ :: rest) ⟨nt, le, gb⟩ := by
  refine TO.ent (Ent.perm (.cons _ perm2)) (TO.n (N.yield (B := B) (xs := [x]) (vs := [v]) hf ⟨ha, trivial⟩ (by rw [hv]; exact hy) (Pick.cons (.head _ _) (Pick.app A _)) hn hs hpd) ?_)
  rintro v L' ⟨rfl, L1, hB, rfl⟩
  exact TO.ent (Ent.perm (.cons _ perm2.symm)) (k L1 hB)
instance {fn : Go.Fn} {us vs : List Value} : Pu P (.mkFunc fn us vs) (fun q => q (.func fn us.toArray vs.toArray)) :=
  ⟨fun E d op ty pos af g hs q hq => by cases hs with | mkFunc h1 h2 => exact ⟨_, DP.mfL h1 h2, hq⟩⟩
instance (priority := 700) {xs ys us : List Value} {j : Nat} {v : Value} {C : Prop} [h : SetV xs j v us C] : SetV (xs ++ ys) j v (us ++ ys) (C ∧ j < xs.length) := ⟨fun hc => by
  have h1 := h.h hc.1
  rw [List.set_append_left _ _ h1.2, h1.1]
  exact ⟨rfl, by rw [List.length_append]; omega⟩⟩
instance {a b : UInt8} : Inv byteV (.int .u8 ((a.toNat ^^^ b.toNat : Nat) : Int)) (a ^^^ b) True := ⟨fun _ => by simp [byteV]⟩
theorem T.useE {P : Program} {n : Nat} {l0 K : List (Nat × Value)} {g0 : Nat → Value} {x x' : Code} {L : List Assn} {Q : Exit → Env → Rd → World → Prop} (h : ∀ g, T P r c L x' Q ⟨n, K, g⟩)
    (hK : Env.has ⟨n, l0, g0⟩ K := by repeat' first | exact trivial | refine ⟨?_, ?_⟩ | (conv => lhs; whnf)) (e : x = x' := by conv => rhs; whnf) : T P r c L x Q ⟨n, l0, g0⟩ := T.norm hK fun g => e ▸ h g
theorem TQ.nnM {dm : List Nat} {dc : List Deferred} {y : Code} (h : T P ⟨none, dm, dc⟩ c L y Q E) : TQ ⟨none, dm, dc⟩ c L (thenQ P R0 y Q) .normal E := by
  unfold T at h
  unfold TQ
  exact fun w hw => h w hw
instance {dm : List Nat} {dc : List Deferred} {y : Code} : Go1 (TQ ⟨none, dm, dc⟩ c L (thenQ P R0 y Q) .normal E) (T P ⟨none, dm, dc⟩ c L y Q E) := ⟨TQ.nnM⟩
theorem TQ.atRet {fn : Func} {B : Value → List Assn → Prop} {C : List PanicEntry → List Assn → Prop} (h : TQ r c L (retQ P fn c R B C) .ret E) : TQ r c L (retQ P fn c R B C) .ret E := h
theorem T.atG {f : Operand} {ps : Array Tmp} {x y : Code} (h : T P r c L (.rangeFunc f ps x y) Q E) : T P r c L (.rangeFunc f ps x y) Q E := h
theorem TQ.finM {fn : Func} {B : Value → List Assn → Prop} {C : List PanicEntry → List Assn → Prop} {rs : List ResultVar} {vs : List Value} {m : Nat} {L0 : List Assn} (h : Fini c L0 R B (asResult vs)) (hd : Del (pt m (.deferred (some []))) L L0 := by repeat (first | exact Del.head _ _ | apply Del.tail)) (hr : fn.results = rs.toArray := by rfl) (hv : rvF E rs = some vs := by conv => lhs; whnf) : TQ ⟨none, [m], []⟩ c L (retQ P fn c R B C) .ret E := by
  have h1 := rvF_ok (P := P) (c := c) (L := L0) hv
  unfold Fini at h
  obtain ⟨L', h3, h4⟩ := h
  exact TQ.retM (L0 := L0) (Ent.perm hd.perm) hr h1 h3 h4
theorem TQ.shut {ex : Exit} {b n k : Nat} {e : TypeId} {xs rest : List Value} (hx : xs.length = n) (hr : rest.length = k) (h : TQ r c (sl e 1 (.slice (some ⟨b, 0, none⟩) n (n + k)) n xs :: R) Q ex E) (hd : Del (row e b (xs ++ rest)) L R := by repeat (first | exact Del.head _ _ | apply Del.tail)) : TQ r c L Q ex E :=
  TQ.ent (Ent.trans (Ent.perm hd.perm) (Ent.sl (by rw [hx, Nat.mul_one]) (by rw [hr, Nat.mul_one]))) h
theorem SatC.post {f : FuncId} {args : List Value} {A : List Assn} {B B' : Value → List Assn → Prop} (h : SatC P c f args A B) (hB : ∀ v L', B v L' → B' v L') : SatC P c f args A B' := fun R w hw => (h R w hw).mono (by
  rintro e w' ⟨v, L', h1, h2, h3⟩
  exact ⟨v, L', h1, hB v L' h2, h3⟩)
end
end Pw


namespace Pw
open Go
/-! ## append(s, make([]byte, m)...) -/
section
variable {P : Program} {r : Rd} {c : Ctx} {L R : List Assn} {E : Env} {d : Option Tmp} {ty : TypeId} {pos : String} {af : Array Edge} {g : Option (Nat × Bool)}
theorem append_zeros {t xt st e : TypeId} {k k' : IntKind} {base : Option Addr} {n cap m by_ : Nat} {z : Value} (ht : P.underlying t = some (.slice e)) (hxt : P.underlying xt = some (.int k)) (hst : P.underlying st = some .string) (hsz : P.cellsOf e = 0 + 1) (hb : P.bytesOf e = by_) (hz : P.zeroOf e = some z) (hzc : z.cells = #[.int .u8 0]) (hlim : (n + m) * (by_ + 1) ≤ 140737488355328) (w : World) :
    (Builtin.append_ #[t, xt] ty #[.slice base n cap, .int k' (m : Nat)]).run P w = (Builtin.append_ #[t, st] ty #[.slice base n cap, str (List.replicate m 0)]).run P w := by
  obtain ⟨i, hi, hie⟩ : ∃ i, P.info? e = some i ∧ i.bytes = by_ := by
    unfold Program.cellsOf at hsz
    cases hi : P.info? e with
    | none => simp [hi] at hsz
    | some i => exact ⟨i, rfl, by unfold Program.bytesOf at hb; simpa [hi] using hb⟩
  have hti : ∀ w, (typeInfo e).run P w = .ok i w := fun w => by simp [typeInfo, hi]
  have hnm : n + m ≤ 140737488355328 := Nat.le_trans (Nat.le_mul_of_pos_right _ (by omega)) hlim
  have hbm : (n + m) * by_ ≤ 140737488355328 := Nat.le_trans (Nat.mul_le_mul_left _ (by omega)) hlim
  have hmb : m * by_ ≤ 140737488355328 := Nat.le_trans (Nat.mul_le_mul_right _ (by omega)) hbm
  have hmbi : (m : Int) * (by_ : Int) ≤ 140737488355328 := by rw [← Int.natCast_mul]; omega
  have hw64 : IntKind.i64.wrap (m : Int) = m := wrap_nat (by simp [IntKind.lim, IntKind.signed, IntKind.bits]; omega)
  have hneg : ¬ ((m : Int) < 0) := by omega
  have h48a : ¬ ((m : Int) * (i.bytes : Int) > 2 ^ 48) := by rw [hie]; omega
  have hmax : ∀ b : Bool, ¬ (((n + m : Nat) : Int) > IntKind.i64.max ∧ (b = true ∨ i.bytes = 0)) := by
    intro b h; have := h.1; simp at this; omega
  have hz0 : ∀ w, (zeroValue e).run P w = .ok z w := run_zeroValue hz
  have hzr : Builtin.zeroCells #[.int .u8 0] m = ((List.replicate m (0 : UInt8)).map byteV).toArray := by
    have := zeroCells_rep [.int .u8 0] (by decide) m
    rw [this, ← rep_map byteV 0 m]; rfl
  have hstr : ((str (List.replicate m 0)) : Value) = .string ⟨(List.replicate m 0).toArray⟩ := rfl
  simp only [Builtin.append_, List.getElem?_toArray, List.getElem?_cons_zero, List.getElem?_cons_succ, hstr]
  simp only [Sem.run_bind, Sem.run_pure, Result.andThen_ok, run_underlying ht, run_underlying hxt, run_underlying hst, run_sizeOf hsz, if_true, asInt, run_asIntOf, hw64, Sem.run_ite, hneg, if_false, hti, h48a, Int.toNat_natCast, Bool.false_eq_true, Builtin.lenOf]
  have hsize : (⟨(List.replicate m (0 : UInt8)).toArray⟩ : ByteArray).size = m := by simp [ByteArray.size]
  have hf : ∀ w', (Builtin.firstCells (0 + 1) m (.string ⟨(List.replicate m (0 : UInt8)).toArray⟩)).run P w' = .ok ((List.replicate m (0 : UInt8)).map byteV).toArray w' := fun w' => by
    simp [Builtin.firstCells]
  have hA : ∀ w' : World, (if m * (0 + 1) = 0 then Result.ok #[] w' else Result.ok (Builtin.zeroCells z.cells m) w') = Result.ok ((List.replicate m (0 : UInt8)).map byteV).toArray w' := fun w' => by
    split
    · next h => have : m = 0 := by omega
                subst this; rfl
    · rw [hzc, hzr]
  have hgt : (((n + m : Nat) : Int) > IntKind.i64.max) = False := by
    apply eq_false; intro h; simp at h; omega
  simp only [hsize, Bool.not_true, Bool.not_false, Bool.false_eq_true, if_true, if_false, hz0, hf, Result.andThen_ok, hA, hgt, false_and]
  by_cases hroom : n + m ≤ cap
  · simp only [hroom, if_true]
  · have hk48 : (Builtin.nextslicecap (n + m) cap * i.bytes > 2 ^ 48) = False := by
      have := growslice_fits (need := n + m) (old := cap) (bytes := i.bytes) (by omega) (by rw [hie]; exact hbm)
      apply eq_false; omega
    simp only [hroom, hk48, if_false]
theorem N.same {o o' : Op} {Φ : Value → List Assn → Prop} (h1 : ∀ d, o ≠ .defer d) (h2 : ∀ d, o' ≠ .defer d) (he : ∀ w, (execOp E.eval ⟨d, o, ty, pos, af, g⟩).run P w = (execOp E.eval ⟨d, o', ty, pos, af, g⟩).run P w) (h : N P r c L E ⟨d, o', ty, pos, af, g⟩ Φ) : N P r c L E ⟨d, o, ty, pos, af, g⟩ Φ := by
  unfold N at *
  intro w hw K Q hK
  have h3 := (h w hw K Q hK).2
  refine ⟨fun _ _ => trivial, ?_⟩
  rw [Oper.semAt_eq _ _ _ h2, E.acd_eval] at h3
  rw [Oper.semAt_eq _ _ _ h1, E.acd_eval, he w]
  exact h3
class StrT (P : Program) (st : outParam TypeId) : Prop where h : P.underlying st = some .string
instance {t xt st e e' : TypeId} {a : Option Addr} {n k m by_ : Nat} {kx k' : IntKind} {x : Int} {xs : List UInt8} {z : Value} [ht : Und P t (.slice e)] [hxt : Und P xt (.int kx)] [hst : StrT P st] [hz : Sz P e 0] [hb : By P e by_] [hzr : Zr P e z] [hcz : Cel z [.int .u8 0]] [hx : Nn x m]
    [hd : SlAt L (.slice a n k) e' 1 n (xs.map byteV) R] :
    St P c L (.builtin .append [.slice a n k, .int k' x] [t, xt]) (fun q => Vc (e' = e ∧ (n + m) * (by_ + 1) ≤ 140737488355328) (∀ a2 k2, q (.slice a2 (n + m) k2) (sl e 1 (.slice a2 (n + m) k2) (n + m) ((xs ++ List.replicate m 0).map byteV) :: R))) :=
  ⟨fun r E d op ty pos af g hs q hq => by
    cases hs with | builtin ev =>
    rename_i xs_
    obtain ⟨⟨rfl, hlim⟩, hq⟩ := hq
    match xs_, ev with
    | [x, y], ⟨e1, e3, _⟩ =>
      rw [hx.h] at e3
      have hl : (List.replicate m (0 : UInt8)).length = m := List.length_replicate
      have hN := (N.app (c := c) (L := L) (r := r) (d := d) (ty := ty) (pos := pos) (af := af) (g := g) (x := x) (y := .const (str (List.replicate m 0))) (xt := st) e1 rfl ht.h hz.h hb.h hzr.h (cellsL_eq z) (by rw [hcz.h]; rfl) hd.h (Src.str hst.h rfl) (fun u hu => by obtain ⟨x, _, rfl⟩ := List.mem_map.1 hu; rfl) (by rw [hl]; exact hlim)).imp2 (Ψ := q) fun v L' w h5 hw => by
        subst h5
        obtain ⟨a2, k2, rfl⟩ := hw.sl_form
        rw [hl, ← List.map_append]
        exact hq a2 k2
      refine N.same (fun _ => by simp) (fun _ => by simp) (fun w => ?_) hN
      have hrun : ∀ (yy : Operand) (tt : TypeId), (execOp E.eval ⟨d, .call ⟨.builtin .append, #[x, yy], #[t, tt]⟩, ty, pos, af, g⟩).run P w = ((Builtin.append_ #[t, tt] ty #[.slice a n k, E.eval yy]).run P w).andThen (fun a w' => Result.ok (Next.value a) w') := fun yy tt => by
        simp [execOp, resolve, invoke, builtin, e1]
      refine (hrun y xt).trans (Eq.trans ?_ (hrun _ st).symm)
      rw [e3]
      rw [append_zeros ht.h hxt.h hst.h hz.h hb.h hzr.h (by rw [cellsL_eq z, hcz.h]) hlim w]
      rfl⟩
/-! minus a length, and its lowest four bits -/
instance {t : TypeId} {x : Int} {n : Nat} [hx : Nn x n] : Pu P (.un .neg t (.int .i64 x)) (fun q => Vc (n < 4611686018427387904) (q (.int .i64 (-(n : Int))))) := ⟨fun E d op ty pos af g hr k hk => by
  cases hr with
  | un h =>
    rw [hx.h] at h
    have hl := hk.l
    have hw : IntKind.i64.wrap (-(n : Int)) = -(n : Int) := by
      simp [IntKind.wrap, IntKind.signed, IntKind.bits, Int.bmod]; omega
    exact ⟨_, by unfold DP; exact ⟨fun _ => by simp, fun w => by simp [execOp, h, Op.unary, Op.intArith, hw]⟩, hk.r⟩⟩
theorem negmask {n : Nat} (h : n < 4611686018427387904) : IntKind.i64.wrap (((BitVec.ofInt IntKind.i64.bits (-(n : Int)) &&& BitVec.ofInt IntKind.i64.bits 15).toNat : Nat) : Int) = (((16 - n % 16) % 16 : Nat) : Int) := by
  have e1 : (BitVec.ofInt IntKind.i64.bits (-(n : Int)) &&& BitVec.ofInt IntKind.i64.bits 15).toNat = (16 - n % 16) % 16 := by
    rw [BitVec.toNat_and]
    have h15 : (BitVec.ofInt IntKind.i64.bits 15).toNat = 2 ^ 4 - 1 := by decide
    rw [h15, Nat.and_two_pow_sub_one_eq_mod, BitVec.toNat_ofInt]
    simp only [IntKind.bits]
    omega
  rw [e1]
  exact wrap_nat (by simp [IntKind.lim, IntKind.signed, IntKind.bits]; omega)
instance (priority := 1200) {t : TypeId} {n : Nat} : Pu P (.bin .and t (.int .i64 (-(n : Int))) (.int .i64 15)) (fun q => Vc (n < 4611686018427387904) (q (.int .i64 (((16 - n % 16) % 16 : Nat) : Int)))) := ⟨fun E d op ty pos af g hr k hk => by
  cases hr with
  | bin h1 h2 =>
    exact ⟨_, by unfold DP; exact ⟨fun _ => by simp, fun w => by simp only [execOp, h1, h2, eqGuard_and, binOp_and, Op.intBits, negmask hk.l]; simp⟩, hk.r⟩⟩
instance (priority := 1050) {t e : TypeId} {k k' : IntKind} {x y : Int} {n n' sz by_ : Nat} {z : Value} {zs ys : List Value} [ht : Und P t (.slice e)] [hs : Sz P e sz] [hb : By P e by_] [hz : Zr P e z] [hc : Cel z zs] [hl : Len zs (sz + 1)] [hx : Nn x n] [hy : Nn y n'] [hr : RepV zs n ys] :
    St P c L (.mkSlice t (.int k x) (.int k' y)) (fun q => Vc (n' = n ∧ n * (by_ + 1) ≤ 281474976710656) (∀ b, q (.slice (some ⟨b, 0, none⟩) n n) (sl e (sz + 1) (.slice (some ⟨b, 0, none⟩) n n) n ys :: L))) :=
  ⟨fun r E d op ty pos af g hs' q hq => by
    cases hs' with | mkSlice e1 e2 =>
    obtain ⟨⟨hnn, hlim⟩, hq⟩ := hq
    rw [hx.h] at e1; rw [hy.h, hnn] at e2
    refine N.ent (N.mk e1 e2 ht.h hs.h hb.h hz.h (cellsL_eq z) (by rw [hc.h]; exact hl.h) hlim) ?_
    rintro v L' ⟨b, rfl, rfl⟩
    refine ⟨sl e (sz + 1) (.slice (some ⟨b, 0, none⟩) n n) n ys :: L, ?_, hq b⟩
    have h1 : (List.replicate n (cellsL z)).flatten = ys := by rw [hc.h]; exact hr.h
    rw [h1]
    have h2 : ys.length = n * (sz + 1) := by rw [← h1, flatten_rep_length, hc.h, hl.h]
    have h3 := Ent.sl (c := c) (L := L) (e := e) (b := b) (n := n) (sz := sz + 1) (k := 0) (xs := ys) (rest := []) h2 (by simp)
    rw [List.append_nil, Nat.add_zero] at h3
    exact h3⟩
end
end Pw


namespace Pw
open Go
/-! ## A store to an element of a slice; shifts of signed numbers -/
section
variable {P : Program} {r : Rd} {c : Ctx} {L R : List Assn} {Q : Exit → Env → Rd → World → Prop} {E : Env}
theorem N.stEj {d : Option Tmp} {ty : TypeId} {pos : String} {af : Array Edge} {g : Option (Nat × Bool)} {x y : Operand} {a : Option Addr} {n k j sz : Nat} {t e : TypeId} {v : Value} {xs : List Value} (hx : E.eval x = .pointer (eA a j)) (hy : E.eval y = v) (hi : P.cellsOf t = 1) (hd : Del (sl e sz (.slice a n k) n xs) L R) (ho : j < xs.length) (hv : v.oneCell' = true) :
    N P r c L E ⟨d, .store t x y, ty, pos, af, g⟩ (fun u L'' => u = undef ∧ L'' = sl e sz (.slice a n k) n (xs.set j v) :: R) := by
  unfold N
  intro w hw K Q hK
  obtain ⟨e1, e2, e3, f1, f2, hdj, hf1, hf2, hsl, hl⟩ := hw.perm hd.perm
  rcases hsl with ⟨_, _, hxs⟩ | ⟨b, m, rest, hvv, hxl, hrl, hrow⟩
  · subst hxs; cases ho
  · have hw' : SL c (row e b (xs ++ rest) :: R) w := ⟨e1, e2, e3, f1, f2, hdj, hf1, hf2, hrow, hl⟩
    simp only [Value.slice.injEq] at hvv
    obtain ⟨rfl, _, hk⟩ := hvv
    rw [eA_some, Nat.zero_add] at hx
    have h1 := N.st (P := P) (r := r) (c := c) (d := d) (ty := ty) (pos := pos) (af := af) (g := g) hx hy hi (et := e) (cs := xs ++ rest) (Put.head _ _ R) (by rw [List.length_append]; omega) hv
    unfold N at h1
    refine h1 w hw' K Q fun u L' w' hq hw2 => ?_
    refine hK u _ w' ⟨hq.1, rfl⟩ ?_
    rw [hq.2, List.set_append_left _ _ ho] at hw2
    rw [hk]
    exact Ent.sl (by rw [List.length_set]; exact hxl) hrl w' hw2
instance (priority := 1000) {t e : TypeId} {a : Option Addr} {j n k sz : Nat} {xs ys : List Value} {v : Value} {C : Prop} [hz : Sz P t 0] [h1 : One v] [hr : ElAt L a e sz n k xs R] [hs : SetV xs j v ys C] : St P c L (.store t (.pointer (eA a j)) v) (fun q => Vc C (q undef (sl e sz (.slice a n k) n ys :: R))) :=
  ⟨fun r E d op ty pos af g hh q hq => by
    cases hh with | store e1 e2 =>
    obtain ⟨g1, g2⟩ := hs.h hq.l
    exact (N.stEj e1 e2 hz.h hr.h g2 h1.h).imp fun _ _ h => by rw [h.1, h.2, g1]; exact hq.r⟩
theorem DP.shlN {d : Option Tmp} {ty : TypeId} {pos : String} {af : Array Edge} {g : Option (Nat × Bool)} {x y : Operand} {k k' : IntKind} {a b l : Nat} {t t' : TypeId} (hx : E.eval x = .int k a) (hy : E.eval y = .int k' b) (hl : k.lim = l) (h : a * 2 ^ b < l) : DP P E ⟨d, .binOp .shl t x y t', ty, pos, af, g⟩ (.int k ((a * 2 ^ b : Nat) : Int)) :=
  by unfold DP; exact
  ⟨fun _ => by simp, fun w => by
    have e : k.wrap ((a : Int) * 2 ^ (min (b : Int).toNat k.bits)) = ((a * 2 ^ b : Nat) : Int) := by
      have e1 : ((a : Int) * 2 ^ (min (b : Int).toNat k.bits)) = ((a * 2 ^ (min b k.bits) : Nat) : Int) := by simp
      have e2 : a * 2 ^ (min b k.bits) = a * 2 ^ b := by
        rcases Nat.le_total b k.bits with h' | h'
        · rw [Nat.min_eq_left h']
        · rcases Nat.eq_zero_or_pos a with h0 | h0
          · subst h0; simp
          · exfalso
            have h1 : 2 ^ k.bits ≤ 2 ^ b := Nat.pow_le_pow_right (by omega) h'
            have h2 : 1 * 2 ^ b ≤ a * 2 ^ b := Nat.mul_le_mul_right _ h0
            have h3 := lim_le k
            omega
      rw [e1, e2]
      exact wrap_nat (by rw [hl]; exact h)
    simp only [execOp, hx, hy, eqGuard_shl, binOp_shl, Op.shift, if_neg (show ¬ ((b : Nat) : Int) < 0 by omega), e]; simp⟩
instance {k k' : IntKind} {x y : Int} {a b l : Nat} {t : TypeId} [hl : Lim k l] [Sgn k] [h1 : Nn x a] [h2 : Nn y b] : Pu P (.bin .shl t (.int k x) (.int k' y)) (fun q => Vc (a * 2 ^ b < l) (q (.int k ((a * 2 ^ b : Nat) : Int)))) :=
  ⟨fun E d op ty pos af g hr q hk => by
    cases hr with | bin e1 e2 =>
    rw [h1.h] at e1; rw [h2.h] at e2
    exact ⟨_, DP.shlN e1 e2 hl.h hk.l, hk.r⟩⟩
end
end Pw


namespace Pw
open Go
/-! ## Plans as in Px9, with parts that are held as they are: what reads them may be looked at as soon as it may come up -/
section
variable {P : Program} {r : Rd} {ops : Array Oper} {Q : Exit → Act → World → Prop}
/-- Behind an operation that is not of ns the world is as it was. -/
def wpAnyG (P : Program) (r : Rd) (ops : Array Oper) (Q : Exit → Act → World → Prop) (ns : List Nat) (G : World → Prop) : Nat → Array Bool → Act → World → Prop
  | 0, listed, a, w => Region.ready .any ops listed = [] ∧ Q .normal a w
  | fuel + 1, listed, a, w =>
    (Region.ready .any ops listed = [] → Q .normal a w) ∧
    ∀ i ∈ Region.ready .any ops listed, wpOpIn (Wf r) 0 P ops Q i (fun a' w' => (ns.contains i = false → w' = w) ∧ G w' ∧ wpAnyG P r ops Q ns G fuel (listed.setIfInBounds i true) a' w') a w
theorem wpAnyIn_of_G {ns : List Nat} {G : World → Prop} : ∀ (fuel : Nat) (listed : Array Bool) (a : Act) (w : World), wpAnyG P r ops Q ns G fuel listed a w → wpAnyIn (Wf r) 0 P .any ops Q fuel listed a w
  | 0, _, _, _, h => h
  | fuel + 1, _, _, _, h => ⟨h.1, fun i hi => wpOpIn_mono (fun a' w' h' => wpAnyIn_of_G fuel _ a' w' h'.2.2) (h.2 i hi)⟩
theorem wpAnyG_mono {ns : List Nat} {G G' : World → Prop} (hG : ∀ w, G w → G' w) : ∀ (fuel : Nat) (listed : Array Bool) (a : Act) (w : World), wpAnyG P r ops Q ns G fuel listed a w → wpAnyG P r ops Q ns G' fuel listed a w
  | 0, _, _, _, h => h
  | fuel + 1, _, _, _, h => ⟨h.1, fun i hi => wpOpIn_mono (fun a' w' h' => ⟨h'.1, hG _ h'.2.1, wpAnyG_mono hG fuel _ a' w' h'.2.2⟩) (h.2 i hi)⟩
theorem wpAnyG_first {ns : List Nat} {G S0 : World → Prop} {i : Nat} {oi : Oper} {v : Value} (hi : ops[i]? = some oi) (hsel : ∀ (j : Nat) (o : Oper) cs b, ops[j]? = some o → o.op ≠ .select cs b)
    (hdef : ∀ (j : Nat) (o : Oper) d, ops[j]? = some o → o.op ≠ .defer d)
    (hQ : ∀ c a w, Q (.panic c) (a.put oi.dst v) w → Q (.panic c) a w) (hin : ns.contains i = false) :
    ∀ (fuel : Nat) (listed : Array Bool) (a : Act) (w : World), Cl ops listed →
      ((∀ w, S0 w) ∨ (∀ j ∈ ns, listed.getD j true = false → Anc ops i j) ∨ (∀ w, G w → S0 w)) →
      (∀ j oj, ops[j]? = some oj → j ≠ i → listed.getD j true = false → (∀ e ∈ oj.after, Region.binds .any e = true → e.on ≠ i) → oi.apart ops oj = true) →
      i ∈ Region.ready .any ops listed → YieldsS P ops S0 oi v a → S0 w → G w →
      wpAnyG P r ops Q ns G fuel (listed.setIfInBounds i true) (a.put oi.dst v) w → wpAnyG P r ops Q ns G (fuel + 1) listed a w := by
  intro fuel
  have one : ∀ (fuel : Nat) (listed : Array Bool) (a : Act) (w : World), YieldsS P ops S0 oi v a → S0 w → G w → wpAnyG P r ops Q ns G fuel (listed.setIfInBounds i true) (a.put oi.dst v) w →
      wpOpIn (Wf r) 0 P ops Q i (fun a' w' => (ns.contains i = false → w' = w) ∧ G w' ∧ wpAnyG P r ops Q ns G fuel (listed.setIfInBounds i true) a' w') a w := fun fuel listed a w hy hS hG H => hy.wpOp hi hS ⟨fun _ => rfl, hG, H⟩
  induction fuel with
  | zero =>
    intro listed a w _ _ _ hr hy hS hG H
    refine ⟨fun h => (by rw [h] at hr; cases hr), fun j hj => ?_⟩
    by_cases hji : j = i
    · subst hji; exact one _ _ _ _ hy hS hG H
    · have := ready_mono hj hji
      rw [H.1] at this
      cases this
  | succ fuel ih =>
    intro listed a w hcl hS0 hfree hr hy hS hG H
    refine ⟨fun h => (by rw [h] at hr; cases hr), fun j hj => ?_⟩
    by_cases hji : j = i
    · subst hji; exact one _ _ _ _ hy hS hG H
    · have h1 := H.2 j (ready_mono hj hji)
      obtain ⟨hjun, oj, hoj, hall⟩ := mem_ready.1 hj
      have hiun : listed.getD i true = false := (mem_ready.1 hr).1
      have hnot : ∀ e ∈ oj.after, Region.binds .any e = true → e.on ≠ i := fun e he hb heq => by
        have h1 := hall e he hb
        rw [heq] at h1
        rw [getD_false_true h1] at hiun; cases hiun
      have hunl : ∀ k, (listed.setIfInBounds j true).getD k true = false → listed.getD k true = false := fun k hun => by
        by_cases hjk : j = k
        · subst hjk; exact hjun
        · rw [getD_set_ne true hjk] at hun; exact hun
      have hfree' : ∀ k ok, ops[k]? = some ok → k ≠ i → (listed.setIfInBounds j true).getD k true = false →
          (∀ e ∈ ok.after, Region.binds .any e = true → e.on ≠ i) → oi.apart ops ok = true := fun k ok hk hki hun hno => hfree k ok hk hki (hunl k hun) hno
      have hri : i ∈ Region.ready .any ops (listed.setIfInBounds j true) := ready_mono hr (Ne.symm hji)
      have h2 := wpOpS_put hoj (hfree j oj hoj hji hjun hnot) (fun cs b => hsel i oi cs b hi) (fun cs b => hsel j oj cs b hoj) (fun d => hdef j oj d hoj) hQ hy h1
      refine wpOpIn_mono (fun a' w' h3 => ?_) h2
      refine ⟨h3.2.1, h3.2.2.1, ih (listed.setIfInBounds j true) a' w' (hcl.set hj) ?_ hfree' hri h3.1 ?_ h3.2.2.1 ?_⟩
      · rcases hS0 with hT | hanc | hGS
        · exact .inl hT
        · exact .inr (.inl fun k hk hun => hanc k hk (hunl k hun))
        · exact .inr (.inr hGS)
      · rcases hS0 with hT | hanc | hGS
        · exact hT w'
        rotate_left
        · exact hGS w' h3.2.2.1
        · have hjn : ns.contains j = false := by
            cases hc : ns.contains j with
            | false => rfl
            | true =>
              have ha := hanc j (by simpa using hc) hjun
              have : listed.getD i false = true := by
                cases ha with
                | one ho he hb hi' => rw [hoj] at ho; cases ho; rw [← hi']; exact hall _ he hb
                | more ho he hb hi' => rw [hoj] at ho; cases ho; exact hcl.anc hi' (getD_false_true (hall _ he hb))
              rw [getD_false_true this] at hiun; cases hiun
          rw [h3.2.1 hjn]; exact hS
      · rw [Array.setIfInBounds_comm _ _ hji]
        exact h3.2.2.2

/-- A plan: in which order they are looked at. p: needs no memory; d: reads; n: the only one that may come up; b2, b3: several may. -/
inductive Sci where
  | fin
  | p (i : Nat) (s : Sci)
  | d (i : Nat) (s : Sci)
  | g (i : Nat) (t : Sci)
  | n (i : Nat) (s : Sci)
  | b2 (i : Nat) (s : Sci) (j : Nat) (t : Sci)
  | b3 (i : Nat) (s : Sci) (j : Nat) (t : Sci) (k : Nat) (u : Sci)
  | b4 (i : Nat) (s : Sci) (j : Nat) (t : Sci) (k : Nat) (u : Sci) (m : Nat) (v : Sci)
def Sci.dep : Sci → Nat
  | .fin => 0
  | .p _ s | .d _ s | .g _ s | .n _ s | .b2 _ s _ _ | .b3 _ s _ _ _ _ | .b4 _ s _ _ _ _ _ _ => s.dep + 1
def okSci (ops : Array Oper) (ns : List Nat) : Sci → Array Bool → Bool
  | .fin, listed => (Region.ready .any ops listed).isEmpty
  | .p i s, listed => okTake ops listed i && !ns.contains i && okSci ops ns s (listed.setIfInBounds i true)
  | .d i s, listed => okTake ops listed i && !ns.contains i && (ns.all fun j => listed.getD j true || ((Region.before ops).getD j 0).testBit i) && okSci ops ns s (listed.setIfInBounds i true)
  | .g i s, listed => okTake ops listed i && !ns.contains i && okSci ops ns s (listed.setIfInBounds i true)
  | .n i s, listed => (Region.ready .any ops listed == [i]) && okSci ops ns s (listed.setIfInBounds i true)
  | .b2 i s j t, listed => (Region.ready .any ops listed == [i, j]) && Nat.beq s.dep t.dep && okSci ops ns s (listed.setIfInBounds i true) && okSci ops ns t (listed.setIfInBounds j true)
  | .b3 i s j t k u, listed => (Region.ready .any ops listed == [i, j, k]) && Nat.beq s.dep t.dep && Nat.beq s.dep u.dep && okSci ops ns s (listed.setIfInBounds i true) && okSci ops ns t (listed.setIfInBounds j true) && okSci ops ns u (listed.setIfInBounds k true)
  | .b4 i s j t k u m v, listed => (Region.ready .any ops listed == [i, j, k, m]) && Nat.beq s.dep t.dep && Nat.beq s.dep u.dep && Nat.beq s.dep v.dep && okSci ops ns s (listed.setIfInBounds i true) && okSci ops ns t (listed.setIfInBounds j true) && okSci ops ns u (listed.setIfInBounds k true) && okSci ops ns v (listed.setIfInBounds m true)
end

/-- The judgement along a plan. -/
def US (P : Program) (r : Rd) (c : Ctx) (ns : List Nat) (ops : Array Oper) (Q : Exit → Env → Rd → World → Prop) (K : List Assn) (s : Sci) (L : List Assn) (E : Env) : Prop :=
  ∀ listed : Array Bool, Calm Q → Cl ops listed → okSci ops ns s listed = true → ∀ w, SL c L w → SL c K w → wpAnyG P r ops (lift Q) ns (SL c K) s.dep listed (E.acd r) w

section
variable {P : Program} {r : Rd} {c : Ctx} {K : List Assn} {ns : List Nat} {ops : Array Oper} {Q : Exit → Env → Rd → World → Prop} {L : List Assn} {E : Env}
theorem T.plank (id : Nat) (ns : List Nat) (s : Sci) {l : List Oper} (h : US P r c ns l.toArray Q [] s L E) (hok : okSci l.toArray ns s (Array.replicate l.length false) = true) (hd : s.dep = l.length) (hm : P.follows .mixedOrders = true) (hq : Calm Q) : T P r c L (.region id l.toArray true) Q E := by
  unfold T
  intro w hw
  refine wpIn_region_any hm (wpAnyIn_of_G (ns := ns) (G := SL c []) _ _ _ _ ?_)
  have := h (Array.replicate l.length false) hq (by have := Cl.init l.toArray; simpa using this) hok { w with drawn := w.drawn + 1 } hw ⟨hw.1, hw.2.1, hw.2.2.1, trivial⟩
  rw [hd] at this
  simpa using this
theorem US.fin (k : TQ r c L Q .normal E) : US P r c ns ops Q [] .fin L E := fun listed _ _ hok w hw _ => by
  unfold TQ at k
  refine ⟨?_, E, r, rfl, k w hw⟩
  simpa [okSci] using hok
/-- A part that stays as it is to the region's end. -/
def lk (A : Assn) : Assn := A
class Unl (L : List Assn) (L' : outParam (List Assn)) : Prop where h : L = L'
instance : Unl [] [] := ⟨rfl⟩
instance (priority := 1100) {A : Assn} {L L' : List Assn} [h : Unl L L'] : Unl (lk A :: L) (A :: L') := ⟨by rw [h.h]; rfl⟩
instance {A : Assn} {L L' : List Assn} [h : Unl L L'] : Unl (A :: L) (A :: L') := ⟨by rw [h.h]⟩
instance (priority := 100) {L : List Assn} : Unl L L := ⟨rfl⟩
theorem US.finL {B : Assn} {L' : List Assn} [hu : Unl L L'] (k : TQ r c L' Q .normal E) : US P r c ns ops Q (B :: K) .fin L E := fun listed _ _ hok w hw _ => by
  unfold TQ at k
  refine ⟨?_, E, r, rfl, k w (hu.h ▸ hw)⟩
  simpa [okSci] using hok
def USK (P : Program) (r : Rd) (c : Ctx) (ns : List Nat) (ops : Array Oper) (Q : Exit → Env → Rd → World → Prop) (K : List Assn) (s : Sci) (L : List Assn) (E : Env) : Prop := Imp L K ∧ US P r c ns ops Q K s L E
theorem USK.mk [h : ImC L K] {s : Sci} (k : US P r c ns ops Q K s L E) : USK P r c ns ops Q K s L E := ⟨h.h, k⟩
theorem USK.m0 {s : Sci} (k : US P r c ns ops Q [] s L E) : USK P r c ns ops Q [] s L E := ⟨Imp.nil L, k⟩
theorem US.take {tag : Nat → Sci → Sci} {i : Nat} {s : Sci} {o : Oper} {v : Value} {S0 : World → Prop} (ho : ops[i]? = some o) (hd : (tag i s).dep = s.dep + 1) (hk : ∀ listed, okSci ops ns (tag i s) listed = true → okTake ops listed i = true ∧ ns.contains i = false ∧ ((∀ w, S0 w) ∨ ∀ j ∈ ns, listed.getD j true = false → Anc ops i j) ∧ okSci ops ns s (listed.setIfInBounds i true) = true)
    (hS : ∀ w, SL c L w → S0 w) (hy : YieldsS P ops S0 o v (E.acd r)) (k : US P r c ns ops Q K s L (E.puto o.dst v)) : US P r c ns ops Q K (tag i s) L E := fun listed hq hcl hok w hw hK => by
  obtain ⟨h0, hn, hA, hok'⟩ := hk listed hok
  simp only [okTake, Bool.and_eq_true] at h0
  obtain ⟨⟨h1, h2⟩, h3⟩ := h0
  have hr : i ∈ Region.ready .any ops listed := by simpa using h3
  rw [hd]
  refine wpAnyG_first (S0 := S0) (v := v) ho (noDefer_s h1) (noDefer_d h1) (fun ch a w => lift_panic hq ch _ _ _ w) hn s.dep listed (E.acd r) w hcl (hA.elim .inl fun h => .inr (.inl h)) (Region.free_spec ho h2) hr hy (hS w hw) hK ?_
  rw [E.acd_put]
  exact k _ hq (hcl.set hr) hok' w hw hK
theorem US.takeS {i : Nat} {s : Sci} {o : Oper} {v : Value} {A : Assn} {R : List Assn} (ho : ops[i]? = some o) (hd : Del A L R) (hk : Imp R K)
    (hy : YieldsS P ops (SL c [A]) o v (E.acd r)) (k : US P r c ns ops Q (lk A :: K) s (lk A :: R) (E.puto o.dst v)) : US P r c ns ops Q K (.g i s) L E := fun listed hq hcl hok w hw hK => by
  simp only [okSci, Bool.and_eq_true, Bool.not_eq_true'] at hok
  obtain ⟨⟨h0, hn⟩, hok'⟩ := hok
  simp only [okTake, Bool.and_eq_true] at h0
  obtain ⟨⟨h1, h2⟩, h3⟩ := h0
  have hr : i ∈ Region.ready .any ops listed := by simpa using h3
  have hw1 : SL c (A :: R) w := hw.perm hd.perm
  have hw2 : SL c (A :: K) w := Ent.imp (Imp.pull (Del.head A R) hk) w hw1
  have hw3 : SL c [A] w := Ent.imp (Imp.pull (Del.head A R) (Imp.nil R)) w hw1
  have hG : ∀ w, SL c (A :: K) w → SL c [A] w := fun w h => Ent.imp (Imp.pull (Del.head A K) (Imp.nil K)) w h
  refine wpAnyG_mono (fun w h => Ent.imp (Imp.drop (A := A) (Imp.refl K)) w h) _ _ _ _ (wpAnyG_first (G := SL c (A :: K)) (S0 := SL c [A]) (v := v) ho (noDefer_s h1) (noDefer_d h1) (fun ch a w => lift_panic hq ch _ _ _ w) hn s.dep listed (E.acd r) w hcl (.inr (.inr hG)) (Region.free_spec ho h2) hr hy hw3 hw2 ?_)
  rw [E.acd_put]
  exact k _ hq (hcl.set hr) hok' w hw1 hw2
theorem US.takeK {i : Nat} {s : Sci} {o : Oper} {v : Value} {A : Assn} {R : List Assn} (ho : ops[i]? = some o) (hd : Del (lk A) K R)
    (hy : YieldsS P ops (SL c [A]) o v (E.acd r)) (k : US P r c ns ops Q K s L (E.puto o.dst v)) : US P r c ns ops Q K (.g i s) L E := fun listed hq hcl hok w hw hK => by
  simp only [okSci, Bool.and_eq_true, Bool.not_eq_true'] at hok
  obtain ⟨⟨h0, hn⟩, hok'⟩ := hok
  simp only [okTake, Bool.and_eq_true] at h0
  obtain ⟨⟨h1, h2⟩, h3⟩ := h0
  have hr : i ∈ Region.ready .any ops listed := by simpa using h3
  have hG : ∀ w, SL c K w → SL c [A] w := fun w h => Ent.imp (Imp.pull (Del.head A R) (Imp.nil R)) w (h.perm hd.perm)
  refine wpAnyG_first (G := SL c K) (S0 := SL c [A]) (v := v) ho (noDefer_s h1) (noDefer_d h1) (fun ch a w => lift_panic hq ch _ _ _ w) hn s.dep listed (E.acd r) w hcl (.inr (.inr hG)) (Region.free_spec ho h2) hr hy (hG w hK) hK ?_
  rw [E.acd_put]
  exact k _ hq (hcl.set hr) hok' w hw hK
theorem okg_p {i : Nat} {s : Sci} (listed : Array Bool) (h : okSci ops ns (.p i s) listed = true) : okTake ops listed i = true ∧ ns.contains i = false ∧ ((∀ w : World, True) ∨ ∀ j ∈ ns, listed.getD j true = false → Anc ops i j) ∧ okSci ops ns s (listed.setIfInBounds i true) = true := by
  simp only [okSci, Bool.and_eq_true, Bool.not_eq_true'] at h
  exact ⟨h.1.1, h.1.2, .inl fun _ => trivial, h.2⟩
theorem okg_d {S0 : World → Prop} {i : Nat} {s : Sci} (listed : Array Bool) (h : okSci ops ns (.d i s) listed = true) : okTake ops listed i = true ∧ ns.contains i = false ∧ ((∀ w : World, S0 w) ∨ ∀ j ∈ ns, listed.getD j true = false → Anc ops i j) ∧ okSci ops ns s (listed.setIfInBounds i true) = true := by
  simp only [okSci, Bool.and_eq_true, Bool.not_eq_true', List.all_eq_true, Bool.or_eq_true] at h
  refine ⟨h.1.1.1, h.1.1.2, .inr fun j hj hu => ?_, h.2⟩
  rcases h.1.2 j hj with h5 | h5
  · rw [h5] at hu; cases hu
  · exact before_anc ops j i h5
/-- One that comes up now, and then the plan s. -/
def UN (P : Program) (r : Rd) (c : Ctx) (ns : List Nat) (ops : Array Oper) (Q : Exit → Env → Rd → World → Prop) (K : List Assn) (i : Nat) (s : Sci) (L : List Assn) (E : Env) : Prop :=
  ∀ listed : Array Bool, Calm Q → Cl ops (listed.setIfInBounds i true) → okSci ops ns s (listed.setIfInBounds i true) = true → ∀ w, SL c L w → SL c K w →
    wpOpIn (Wf r) 0 P ops (lift Q) i (fun a' w' => (ns.contains i = false → w' = w) ∧ SL c K w' ∧ wpAnyG P r ops (lift Q) ns (SL c K) s.dep (listed.setIfInBounds i true) a' w') (E.acd r) w
theorem US.one {i : Nat} {s : Sci} (h : UN P r c ns ops Q K i s L E) : US P r c ns ops Q K (.n i s) L E := fun listed hq hcl hok w hw hK => by
  simp only [okSci, Bool.and_eq_true] at hok
  have hr : Region.ready .any ops listed = [i] := by simpa using hok.1
  have hi : i ∈ Region.ready .any ops listed := by rw [hr]; simp
  refine ⟨fun h => (by rw [h] at hr; cases hr), fun j hj => ?_⟩
  rw [hr] at hj
  obtain rfl : j = i := by simpa using hj
  exact h listed hq (hcl.set hi) hok.2 w hw hK
theorem US.two {i j : Nat} {s t : Sci} (h : UN P r c ns ops Q K i s L E ∧ UN P r c ns ops Q K j t L E) : US P r c ns ops Q K (.b2 i s j t) L E := fun listed hq hcl hok w hw hK => by
  simp only [okSci, Bool.and_eq_true] at hok
  obtain ⟨⟨⟨h0, hd⟩, h1⟩, h2⟩ := hok
  have hr : Region.ready .any ops listed = [i, j] := by simpa using h0
  have hd' := Nat.eq_of_beq_eq_true hd
  refine ⟨fun h => (by rw [h] at hr; cases hr), fun q hq' => ?_⟩
  have hq0 := hq'
  rw [hr] at hq'
  rcases List.mem_cons.1 hq' with rfl | hq'
  · exact h.1 listed hq (hcl.set hq0) h1 w hw hK
  · obtain rfl : q = j := by simpa using hq'
    have := h.2 listed hq (hcl.set hq0) h2 w hw hK
    rw [← hd'] at this; exact this
theorem US.three {i j m : Nat} {s t u : Sci} (h : UN P r c ns ops Q K i s L E ∧ UN P r c ns ops Q K j t L E ∧ UN P r c ns ops Q K m u L E) : US P r c ns ops Q K (.b3 i s j t m u) L E := fun listed hq hcl hok w hw hK => by
  simp only [okSci, Bool.and_eq_true] at hok
  obtain ⟨⟨⟨⟨⟨h0, hd⟩, hd2⟩, h1⟩, h2⟩, h3⟩ := hok
  have hr : Region.ready .any ops listed = [i, j, m] := by simpa using h0
  have hd' := Nat.eq_of_beq_eq_true hd
  have hd2' := Nat.eq_of_beq_eq_true hd2
  refine ⟨fun h => (by rw [h] at hr; cases hr), fun q hq' => ?_⟩
  have hq0 := hq'
  rw [hr] at hq'
  rcases List.mem_cons.1 hq' with rfl | hq'
  · exact h.1 listed hq (hcl.set hq0) h1 w hw hK
  · rcases List.mem_cons.1 hq' with rfl | hq'
    · have := h.2.1 listed hq (hcl.set hq0) h2 w hw hK
      rw [← hd'] at this; exact this
    · obtain rfl : q = m := by simpa using hq'
      have := h.2.2 listed hq (hcl.set hq0) h3 w hw hK
      rw [← hd2'] at this; exact this
theorem US.four {i j m y : Nat} {s t u v : Sci} (h : UN P r c ns ops Q K i s L E ∧ UN P r c ns ops Q K j t L E ∧ UN P r c ns ops Q K m u L E ∧ UN P r c ns ops Q K y v L E) : US P r c ns ops Q K (.b4 i s j t m u y v) L E := fun listed hq hcl hok w hw hK => by
  simp only [okSci, Bool.and_eq_true] at hok
  obtain ⟨⟨⟨⟨⟨⟨⟨h0, hd⟩, hd2⟩, hd3⟩, h1⟩, h2⟩, h3⟩, h4⟩ := hok
  have hr : Region.ready .any ops listed = [i, j, m, y] := by simpa using h0
  have hd' := Nat.eq_of_beq_eq_true hd
  have hd2' := Nat.eq_of_beq_eq_true hd2
  have hd3' := Nat.eq_of_beq_eq_true hd3
  refine ⟨fun h => (by rw [h] at hr; cases hr), fun q hq' => ?_⟩
  have hq0 := hq'
  rw [hr] at hq'
  rcases List.mem_cons.1 hq' with rfl | hq'
  · exact h.1 listed hq (hcl.set hq0) h1 w hw hK
  · rcases List.mem_cons.1 hq' with rfl | hq'
    · have := h.2.1 listed hq (hcl.set hq0) h2 w hw hK
      rw [← hd'] at this; exact this
    · rcases List.mem_cons.1 hq' with rfl | hq'
      · have := h.2.2.1 listed hq (hcl.set hq0) h3 w hw hK
        rw [← hd2'] at this; exact this
      · obtain rfl : q = y := by simpa using hq'
        have := h.2.2.2 listed hq (hcl.set hq0) h4 w hw hK
        rw [← hd3'] at this; exact this
theorem UN.n {i : Nat} {s : Sci} {o : Oper} {Φ : Value → List Assn → Prop} (ho : ops[i]? = some o) (hns : ns.contains i = true) (hw : Region.wanted o (yielded ops (E.acd r).tmps) = true) (hn : N P r c L E o Φ)
    (k : ∀ v L', Φ v L' → USK P r c ns ops Q K s L' (E.puto o.dst v)) : UN P r c ns ops Q K i s L E := fun listed hq hcl hok w hw' hK => by
  unfold wpOpIn
  simp only [ho]
  rw [if_pos hw]
  unfold N at hn
  refine hn w hw' _ _ fun v L' w' hΦ hw' => ⟨fun h => (by rw [hns] at h; cases h), Ent.imp (k v L' hΦ).1 w' hw', ?_⟩
  rw [E.acd_put]
  exact (k v L' hΦ).2 _ hq hcl hok w' hw' (Ent.imp (k v L' hΦ).1 w' hw')
theorem UN.d {i : Nat} {s : Sci} {o : Oper} {v : Value} (ho : ops[i]? = some o) (hw : Region.wanted o (yielded ops (E.acd r).tmps) = true) (hd : D P c L E o v)
    (k : US P r c ns ops Q K s L (E.puto o.dst v)) : UN P r c ns ops Q K i s L E := fun listed hq hcl hok w hw' hK => by
  unfold D at hd
  refine YieldsS.wpOp (S := SL c L) (v := v) ho (.inl ⟨hw, hd.1, fun w hw => by rw [Env.acd_eval]; exact hd.2 w hw⟩) hw' ⟨fun _ => rfl, hK, ?_⟩
  rw [E.acd_put]
  exact k _ hq hcl hok w hw' hK
theorem UN.off {i : Nat} {s : Sci} {o : Oper} (ho : ops[i]? = some o) (hw : Region.wanted o (yielded ops (E.acd r).tmps) = false)
    (k : US P r c ns ops Q K s L (E.puto o.dst undef)) : UN P r c ns ops Q K i s L E := fun listed hq hcl hok w hw' hK => by
  refine YieldsS.wpOp (S := SL c L) (v := undef) ho (.inr ⟨hw, rfl⟩) hw' ⟨fun _ => rfl, hK, ?_⟩
  rw [E.acd_put]
  exact k _ hq hcl hok w hw' hK

/-- Which part an operation reads. -/
class LkA (ro : RO) (L : List Assn) (A : outParam Assn) (R : outParam (List Assn)) : Prop where h : Del A L R
instance {a b e : TypeId} {p : Option Addr} {n k m sz : Nat} {xs : List Value} {L R : List Assn} [h : SlAt L (.slice p n k) e sz m xs R] : LkA (.conv a b (.slice p n k)) L (sl e sz (.slice p n k) m xs) R := ⟨h.h⟩
class LkB (ro : RO) (K : List Assn) (A : outParam Assn) : Prop where h : ∃ R, Del (lk A) K R
instance (priority := 1100) {a b e : TypeId} {p : Option Addr} {n k m sz : Nat} {xs : List Value} {K : List Assn} : LkB (.conv a b (.slice p n k)) (lk (sl e sz (.slice p n k) m xs) :: K) (sl e sz (.slice p n k) m xs) := ⟨_, .head _ _⟩
instance {B A : Assn} {ro : RO} {K : List Assn} [h : LkB ro K A] : LkB ro (B :: K) A := ⟨let ⟨_, hr⟩ := h.h; ⟨_, .tail hr⟩⟩
section
variable {nt : Nat} {l : List (Nat × Value)} {gb : Nat → Value} {ds : Nat} {op : Op} {ty : TypeId} {pos : String} {af : Array Edge} {j i : Nat} {want : Bool} {s : Sci} {ro : RO} {W : (Value → Prop) → Prop} {V : (Value → List Assn → Prop) → Prop}
theorem US.p0 (ho : ops[i]? = some ⟨some ds, op, ty, pos, af, none⟩) (hr : rsv ⟨nt, l, gb⟩ op = ro) [h : Pu P ro W] (k : W (fun v => US P r c ns ops Q K s L ⟨nt, (ds, v) :: l, gb⟩)) : US P r c ns ops Q K (.p i s) L ⟨nt, l, gb⟩ := by
  obtain ⟨v, hd, hk⟩ := h.go _ (some ds) op ty pos af none (rsv_ok hr) _ k
  unfold DP at hd
  exact US.take (S0 := fun _ => True) ho rfl (fun listed h => okg_p listed h) (fun _ _ => trivial) (.inl ⟨wanted_none rfl, hd.1, fun w _ => by rw [Env.acd_eval]; exact hd.2 w⟩) hk
theorem US.s0 {A : Assn} {R : List Assn} (ho : ops[i]? = some ⟨some ds, op, ty, pos, af, none⟩) (hr : rsv ⟨nt, l, gb⟩ op = ro) [hA : LkA ro L A R] [hR : ImC R K] [h : Re P c [A] ro W] (k : W (fun v => US P r c ns ops Q (lk A :: K) s (lk A :: R) ⟨nt, (ds, v) :: l, gb⟩)) : US P r c ns ops Q K (.g i s) L ⟨nt, l, gb⟩ := by
  obtain ⟨v, hd, hk⟩ := h.go _ (some ds) op ty pos af none (rsv_ok hr) _ k
  unfold D at hd
  exact US.takeS ho hA.h hR.h (.inl ⟨wanted_none rfl, hd.1, fun w hw => by rw [Env.acd_eval]; exact hd.2 w hw⟩) hk
theorem US.s1 {A : Assn} (ho : ops[i]? = some ⟨some ds, op, ty, pos, af, none⟩) (hr : rsv ⟨nt, l, gb⟩ op = ro) [hA : LkB ro K A] [h : Re P c [A] ro W] (k : W (fun v => US P r c ns ops Q K s L ⟨nt, (ds, v) :: l, gb⟩)) : US P r c ns ops Q K (.g i s) L ⟨nt, l, gb⟩ := by
  obtain ⟨v, hd, hk⟩ := h.go _ (some ds) op ty pos af none (rsv_ok hr) _ k
  obtain ⟨R, hR⟩ := hA.h
  unfold D at hd
  exact US.takeK ho hR (.inl ⟨wanted_none rfl, hd.1, fun w hw => by rw [Env.acd_eval]; exact hd.2 w hw⟩) hk
theorem US.py (ho : ops[i]? = some ⟨some ds, op, ty, pos, af, some (j, want)⟩) (hy : Env.yl ⟨nt, l, gb⟩ ops j = some want) (hr : rsv ⟨nt, l, gb⟩ op = ro) [h : Pu P ro W] (k : W (fun v => US P r c ns ops Q K s L ⟨nt, (ds, v) :: l, gb⟩)) : US P r c ns ops Q K (.p i s) L ⟨nt, l, gb⟩ := by
  obtain ⟨v, hd, hk⟩ := h.go _ (some ds) op ty pos af (some (j, want)) (rsv_ok hr) _ k
  unfold DP at hd
  exact US.take (S0 := fun _ => True) ho rfl (fun listed h => okg_p listed h) (fun _ _ => trivial) (.inl ⟨by show Region.wanted _ (Go.yielded ops (Env.act ⟨nt, l, gb⟩).tmps) = true; rw [Env.wanted rfl hy]; simp, hd.1, fun w _ => by rw [Env.acd_eval]; exact hd.2 w⟩) hk
theorem US.pn {b : Bool} (ho : ops[i]? = some ⟨some ds, op, ty, pos, af, some (j, want)⟩) (hy : Env.yl ⟨nt, l, gb⟩ ops j = some b) (hb : (b == want) = false) (k : US P r c ns ops Q K s L ⟨nt, (ds, undef) :: l, gb⟩) : US P r c ns ops Q K (.p i s) L ⟨nt, l, gb⟩ :=
  US.take (S0 := fun _ => True) ho rfl (fun listed h => okg_p listed h) (fun _ _ => trivial) (.inr ⟨by show Region.wanted _ (Go.yielded ops (Env.act ⟨nt, l, gb⟩).tmps) = false; rw [Env.wanted rfl hy]; exact hb, rfl⟩) k
theorem US.pu (ho : ops[i]? = some ⟨some ds, op, ty, pos, af, some (j, want)⟩) (hy : Env.yl ⟨nt, l, gb⟩ ops j = none) (k : US P r c ns ops Q K s L ⟨nt, (ds, undef) :: l, gb⟩) : US P r c ns ops Q K (.p i s) L ⟨nt, l, gb⟩ :=
  US.take (S0 := fun _ => True) ho rfl (fun listed h => okg_p listed h) (fun _ _ => trivial) (.inr ⟨Env.wantedN rfl hy, rfl⟩) k
theorem US.d0 (ho : ops[i]? = some ⟨some ds, op, ty, pos, af, none⟩) (hr : rsv ⟨nt, l, gb⟩ op = ro) [h : Re P c L ro W] (k : W (fun v => US P r c ns ops Q K s L ⟨nt, (ds, v) :: l, gb⟩)) : US P r c ns ops Q K (.d i s) L ⟨nt, l, gb⟩ := by
  obtain ⟨v, hd, hk⟩ := h.go _ (some ds) op ty pos af none (rsv_ok hr) _ k
  unfold D at hd
  exact US.take (S0 := SL c L) ho rfl (fun listed h => okg_d listed h) (fun _ h => h) (.inl ⟨wanted_none rfl, hd.1, fun w hw => by rw [Env.acd_eval]; exact hd.2 w hw⟩) hk
theorem US.dy (ho : ops[i]? = some ⟨some ds, op, ty, pos, af, some (j, want)⟩) (hy : Env.yl ⟨nt, l, gb⟩ ops j = some want) (hr : rsv ⟨nt, l, gb⟩ op = ro) [h : Re P c L ro W] (k : W (fun v => US P r c ns ops Q K s L ⟨nt, (ds, v) :: l, gb⟩)) : US P r c ns ops Q K (.d i s) L ⟨nt, l, gb⟩ := by
  obtain ⟨v, hd, hk⟩ := h.go _ (some ds) op ty pos af (some (j, want)) (rsv_ok hr) _ k
  unfold D at hd
  exact US.take (S0 := SL c L) ho rfl (fun listed h => okg_d listed h) (fun _ h => h) (.inl ⟨by show Region.wanted _ (Go.yielded ops (Env.act ⟨nt, l, gb⟩).tmps) = true; rw [Env.wanted rfl hy]; simp, hd.1, fun w hw => by rw [Env.acd_eval]; exact hd.2 w hw⟩) hk
theorem US.dn {b : Bool} (ho : ops[i]? = some ⟨some ds, op, ty, pos, af, some (j, want)⟩) (hy : Env.yl ⟨nt, l, gb⟩ ops j = some b) (hb : (b == want) = false) (k : US P r c ns ops Q K s L ⟨nt, (ds, undef) :: l, gb⟩) : US P r c ns ops Q K (.d i s) L ⟨nt, l, gb⟩ :=
  US.take (S0 := SL c L) ho rfl (fun listed h => okg_d listed h) (fun _ h => h) (.inr ⟨by show Region.wanted _ (Go.yielded ops (Env.act ⟨nt, l, gb⟩).tmps) = false; rw [Env.wanted rfl hy]; exact hb, rfl⟩) k
theorem US.du (ho : ops[i]? = some ⟨some ds, op, ty, pos, af, some (j, want)⟩) (hy : Env.yl ⟨nt, l, gb⟩ ops j = none) (k : US P r c ns ops Q K s L ⟨nt, (ds, undef) :: l, gb⟩) : US P r c ns ops Q K (.d i s) L ⟨nt, l, gb⟩ :=
  US.take (S0 := SL c L) ho rfl (fun listed h => okg_d listed h) (fun _ h => h) (.inr ⟨Env.wantedN rfl hy, rfl⟩) k
/-! the ones that come up alone -/
theorem UN.r0 (ho : ops[i]? = some ⟨some ds, op, ty, pos, af, none⟩) (hr : rsv ⟨nt, l, gb⟩ op = ro) [h : Re P c L ro W] (k : W (fun v => US P r c ns ops Q K s L ⟨nt, (ds, v) :: l, gb⟩)) : UN P r c ns ops Q K i s L ⟨nt, l, gb⟩ := by
  obtain ⟨v, hd, hk⟩ := h.go _ (some ds) op ty pos af none (rsv_ok hr) _ k
  exact UN.d ho (wanted_none rfl) hd hk
theorem UN.ry (ho : ops[i]? = some ⟨some ds, op, ty, pos, af, some (j, want)⟩) (hy : Env.yl ⟨nt, l, gb⟩ ops j = some want) (hr : rsv ⟨nt, l, gb⟩ op = ro) [h : Re P c L ro W] (k : W (fun v => US P r c ns ops Q K s L ⟨nt, (ds, v) :: l, gb⟩)) : UN P r c ns ops Q K i s L ⟨nt, l, gb⟩ := by
  obtain ⟨v, hd, hk⟩ := h.go _ (some ds) op ty pos af (some (j, want)) (rsv_ok hr) _ k
  exact UN.d ho (by show Region.wanted _ (Go.yielded ops (Env.act ⟨nt, l, gb⟩).tmps) = true; rw [Env.wanted rfl hy]; simp) hd hk
theorem UN.s0 (ho : ops[i]? = some ⟨some ds, op, ty, pos, af, none⟩) (hns : ns.contains i = true) (hr : rsv ⟨nt, l, gb⟩ op = ro) [h : St P c L ro V] (k : V (fun v L' => USK P r c ns ops Q K s L' ⟨nt, (ds, v) :: l, gb⟩)) : UN P r c ns ops Q K i s L ⟨nt, l, gb⟩ :=
  UN.n ho hns (wanted_none rfl) (h.go r _ _ _ _ _ _ _ (rsv_ok hr) _ k) fun _ _ hk => hk
theorem UN.sz (ho : ops[i]? = some ⟨none, op, ty, pos, af, none⟩) (hns : ns.contains i = true) (hr : rsv ⟨nt, l, gb⟩ op = ro) [h : St P c L ro V] (k : V (fun _ L' => USK P r c ns ops Q K s L' ⟨nt, l, gb⟩)) : UN P r c ns ops Q K i s L ⟨nt, l, gb⟩ :=
  UN.n ho hns (wanted_none rfl) (h.go r _ _ _ _ _ _ _ (rsv_ok hr) _ k) fun _ _ hk => hk
theorem UN.sy (ho : ops[i]? = some ⟨some ds, op, ty, pos, af, some (j, want)⟩) (hns : ns.contains i = true) (hy : Env.yl ⟨nt, l, gb⟩ ops j = some want) (hr : rsv ⟨nt, l, gb⟩ op = ro) [h : St P c L ro V] (k : V (fun v L' => USK P r c ns ops Q K s L' ⟨nt, (ds, v) :: l, gb⟩)) : UN P r c ns ops Q K i s L ⟨nt, l, gb⟩ :=
  UN.n ho hns (by show Region.wanted _ (Go.yielded ops (Env.act ⟨nt, l, gb⟩).tmps) = true; rw [Env.wanted rfl hy]; simp) (h.go r _ _ _ _ _ _ _ (rsv_ok hr) _ k) fun _ _ hk => hk
theorem UN.no {b : Bool} (ho : ops[i]? = some ⟨some ds, op, ty, pos, af, some (j, want)⟩) (hy : Env.yl ⟨nt, l, gb⟩ ops j = some b) (hb : (b == want) = false) (k : US P r c ns ops Q K s L ⟨nt, (ds, undef) :: l, gb⟩) : UN P r c ns ops Q K i s L ⟨nt, l, gb⟩ :=
  UN.off ho (by show Region.wanted _ (Go.yielded ops (Env.act ⟨nt, l, gb⟩).tmps) = false; rw [Env.wanted rfl hy]; exact hb) k
theorem UN.nu (ho : ops[i]? = some ⟨some ds, op, ty, pos, af, some (j, want)⟩) (hy : Env.yl ⟨nt, l, gb⟩ ops j = none) (k : US P r c ns ops Q K s L ⟨nt, (ds, undef) :: l, gb⟩) : UN P r c ns ops Q K i s L ⟨nt, l, gb⟩ :=
  UN.off ho (Env.wantedN rfl hy) k
/-! a guard that is not known -/
def gslotG (ops : Array Oper) (i : Nat) : Option Nat := match ops[i]? with | some o => (match o.guard with | some (j, _) => nthDst ops.toList j | none => none) | none => none
def Sci.hd : Sci → Nat
  | .fin => 0
  | .p i _ | .d i _ | .g i _ | .n i _ | .b2 i _ _ _ | .b3 i _ _ _ _ _ | .b4 i _ _ _ _ _ _ _ => i
theorem US.gS {t : Nat} {b : Bool} (ht : gslotG ops s.hd = some t) (hv : Env.get ⟨nt, l, gb⟩ t = .bool b)
    (h : (b = true → US P r c ns ops Q K s L ⟨nt, (t, .bool true) :: l, gb⟩) ∧ (b = false → US P r c ns ops Q K s L ⟨nt, (t, .bool false) :: l, gb⟩)) : US P r c ns ops Q K s L ⟨nt, l, gb⟩ := by
  unfold US
  intro listed hq hcl hok w hw hK
  cases b with
  | true => rw [Env.acd_congr (Env.put_same t _ hv) r]; have := h.1 rfl; unfold US at this; exact this listed hq hcl hok w hw hK
  | false => rw [Env.acd_congr (Env.put_same t _ hv) r]; have := h.2 rfl; unfold US at this; exact this listed hq hcl hok w hw hK
theorem US.gD {t : Nat} {p : Prop} {inst : Decidable p} (ht : gslotG ops s.hd = some t) (hv : Env.get ⟨nt, l, gb⟩ t = .bool (@decide p inst))
    (h : (p → US P r c ns ops Q K s L ⟨nt, (t, .bool true) :: l, gb⟩) ∧ (¬ p → US P r c ns ops Q K s L ⟨nt, (t, .bool false) :: l, gb⟩)) : US P r c ns ops Q K s L ⟨nt, l, gb⟩ :=
  US.gS ht hv ⟨fun h' => h.1 (of_decide_eq_true h'), fun h' => h.2 (of_decide_eq_false h')⟩
/-- The guard is known. -/
theorem US.kT {t : Nat} (_ : gslotG ops s.hd = some t) (_ : Env.get ⟨nt, l, gb⟩ t = .bool true) (k : US P r c ns ops Q K s L ⟨nt, l, gb⟩) : US P r c ns ops Q K s L ⟨nt, l, gb⟩ := k
theorem US.kF {t : Nat} (_ : gslotG ops s.hd = some t) (_ : Env.get ⟨nt, l, gb⟩ t = .bool false) (k : US P r c ns ops Q K s L ⟨nt, l, gb⟩) : US P r c ns ops Q K s L ⟨nt, l, gb⟩ := k
end
end
theorem T.pk (id : Nat) (ns : List Nat) (s : Sci) {P : Program} {r : Rd} {c : Ctx} {L : List Assn} {Q : Exit → Env → Rd → World → Prop} {E : Env} {l : List Oper} [hm : Mixed P] [hq : CalmC Q] (h : US P r c ns l.toArray Q [] s L E) (hok : okSci l.toArray ns s (Array.replicate l.length false) = true := by kernel_rfl) (hd : s.dep = l.length := by rfl) : T P r c L (.region id l.toArray true) Q E := T.plank id ns s h hok hd hm.h hq.h
attribute [irreducible] US UN USK lk
/-- A step along such a plan. -/
theorem stk {G G' : Prop} (k : G') (h : G' → G := by
  first
  | exact fun k => USK.m0 k
  | exact fun k => USK.mk k
  | exact fun k => US.p0 rfl (by conv => lhs; whnf) k
  | exact fun k => US.d0 rfl (by conv => lhs; whnf) k
  | exact fun k => US.s1 rfl (by conv => lhs; whnf) k
  | exact fun k => US.s0 rfl (by conv => lhs; whnf) k
  | exact fun k => US.one k
  | exact fun k => UN.r0 rfl (by conv => lhs; whnf) k
  | exact fun k => UN.s0 rfl rfl (by conv => lhs; whnf) k
  | exact fun k => UN.sz rfl rfl (by conv => lhs; whnf) k
  | exact fun k => US.fin k
  | exact fun k => US.finL k
  | exact fun k => US.pn rfl rfl rfl k
  | exact fun k => US.pu rfl rfl k
  | exact fun k => US.py rfl rfl (by conv => lhs; whnf) k
  | exact fun k => US.dn rfl rfl rfl k
  | exact fun k => US.du rfl rfl k
  | exact fun k => US.dy rfl rfl (by conv => lhs; whnf) k
  | exact fun k => UN.no rfl rfl rfl k
  | exact fun k => UN.nu rfl rfl k
  | exact fun k => UN.ry rfl rfl (by conv => lhs; whnf) k
  | exact fun k => UN.sy rfl rfl rfl (by conv => lhs; whnf) k
  | exact fun k => US.two k
  | exact fun k => US.three k
  | exact fun k => US.four k
  | exact fun k => US.gD rfl rfl k
  | ((fail_if_success (exact fun k => US.kT rfl rfl k)); (fail_if_success (exact fun k => US.kF rfl rfl k)); exact fun k => US.gS rfl rfl k)) : G := h k
end Pw


namespace Pw
open Go
/-! ## Literal bytes to a string; parts of a row of bytes with more behind it; And with any number -/
section
variable {P : Program} {c : Ctx} {L : List Assn}
instance (priority := 690) {a b e e' : TypeId} {p : Option Addr} {n k : Nat} {us : List Value} {l : List UInt8} {C : Prop} [ha : Und P a (.slice e)] [hb : Und P b .string] [he : Und P e (.int .u8)] [hm : SlMem L (.slice p n k) e' 1 n us] [hl : BL us l C] : Re P c L (.conv a b (.slice p n k)) (fun q => Vc C (q (str l))) :=
  ⟨fun E d op ty pos af g hs q hq => by
    cases hs with | conv e1 =>
    have h1 := hm.h
    rw [hl.h hq.l] at h1
    exact ⟨_, D.cbsE e1 ha.h hb.h he.h h1, hq.r⟩⟩
instance (priority := 940) {a b e e' : TypeId} {p o n k : Nat} {l : List UInt8} {rest : List Value} [ha : Und P a (.slice e)] [hb : Und P b .string] [he : Und P e (.int .u8)] [hm : RowAt L p e' (l.map byteV ++ rest)] : Re P c L (.conv a b (.slice (some ⟨p, o, none⟩) n k)) (fun q => Vc (o + n ≤ l.length) (q (str ((l.drop o).take n)))) :=
  ⟨fun E d op ty pos af g hs q hq => by
    cases hs with | conv e1 =>
    have hl := hq.l
    refine ⟨_, D.cbs (l := (l.drop o).take n) e1 ha.h hb.h he.h (by simp; omega) hm.h (ReadsN.row fun i v hv => ?_), hq.r⟩
    have hi := getS_lt hv
    rw [List.length_map, List.length_take, List.length_drop] at hi
    rw [List.map_take, List.map_drop] at hv
    rw [List.getElem?_append_left (by rw [List.length_map]; omega)]
    exact drop_reads i v hv⟩
end
end Pw
namespace Pw
open Go
section
variable {P : Program} {E : Env} {d : Option Tmp} {ty : TypeId} {pos : String} {af : Array Edge} {g : Option (Nat × Bool)}
theorem run_fnS {t : TypeId} {fn : Fn} {a b : Array Value} {x1 x2 : Array TypeId} {x3 : Bool} (n : Nat) (ht : P.underlying t = some (.func x1 x2 x3)) (w : World) : (Op.equalIn (n + 1) t (.func fn a b) .nilFunc).run P w = .ok false w := by
  simp [Op.equalIn, run_underlying ht]
theorem DP.eqlfnS {x y : Operand} {fn : Fn} {a b : Array Value} {t t' : TypeId} {x1 x2 : Array TypeId} {x3 : Bool} (hx : E.eval x = .func fn a b) (hy : E.eval y = .nilFunc) (ht : P.underlying t = some (.func x1 x2 x3)) : DP P E ⟨d, .binOp .eql t x y t', ty, pos, af, g⟩ (.bool false) := by
  unfold DP
  refine ⟨fun _ => by simp, fun w => ?_⟩
  have h := run_fnS (P := P) (fn := fn) (a := a) (b := b) 9999 ht w
  simp only [execOp, hx, hy, eqGuard_at_func, binOp, Sem.run_bind, Sem.run_pure, Result.andThen_ok]
  rw [show Op.equal t (.func fn a b) .nilFunc = Op.equalIn (9999 + 1) t (.func fn a b) .nilFunc from rfl, h]
  rfl
instance {fn : Fn} {a b : Array Value} {t : TypeId} {x1 x2 : Array TypeId} {x3 : Bool} [ht : Und P t (.func x1 x2 x3)] : Pu P (.bin .eql t (.func fn a b) .nilFunc) (fun q => q (.bool false)) := ⟨fun E d op ty pos af g hr q hk => by cases hr with | bin e1 e2 => exact ⟨_, DP.eqlfnS e1 e2 ht.h, hk⟩⟩
theorem DP.neqfnS {x y : Operand} {fn : Fn} {a b : Array Value} {t t' : TypeId} {x1 x2 : Array TypeId} {x3 : Bool} (hx : E.eval x = .func fn a b) (hy : E.eval y = .nilFunc) (ht : P.underlying t = some (.func x1 x2 x3)) : DP P E ⟨d, .binOp .neq t x y t', ty, pos, af, g⟩ (.bool true) := by
  unfold DP
  refine ⟨fun _ => by simp, fun w => ?_⟩
  have h := run_fnS (P := P) (fn := fn) (a := a) (b := b) 9999 ht w
  simp only [execOp, hx, hy, eqGuard_at_func, binOp, Sem.run_bind, Sem.run_pure, Result.andThen_ok]
  rw [show Op.equal t (.func fn a b) .nilFunc = Op.equalIn (9999 + 1) t (.func fn a b) .nilFunc from rfl, h]
  rfl
instance {fn : Fn} {a b : Array Value} {t : TypeId} {x1 x2 : Array TypeId} {x3 : Bool} [ht : Und P t (.func x1 x2 x3)] : Pu P (.bin .neq t (.func fn a b) .nilFunc) (fun q => q (.bool true)) := ⟨fun E d op ty pos af g hr q hk => by cases hr with | bin e1 e2 => exact ⟨_, DP.neqfnS e1 e2 ht.h, hk⟩⟩
theorem run_fn0 {t : TypeId} {x1 x2 : Array TypeId} {x3 : Bool} (n : Nat) (ht : P.underlying t = some (.func x1 x2 x3)) (w : World) : (Op.equalIn (n + 1) t (.nilFunc) .nilFunc).run P w = .ok true w := by
  simp [Op.equalIn, run_underlying ht]
theorem DP.eqlfn0 {x y : Operand} {t t' : TypeId} {x1 x2 : Array TypeId} {x3 : Bool} (hx : E.eval x = .nilFunc) (hy : E.eval y = .nilFunc) (ht : P.underlying t = some (.func x1 x2 x3)) : DP P E ⟨d, .binOp .eql t x y t', ty, pos, af, g⟩ (.bool true) := by
  unfold DP
  refine ⟨fun _ => by simp, fun w => ?_⟩
  have h := run_fn0 (P := P) 9999 ht w
  simp only [execOp, hx, hy, eqGuard_at_nilFunc, binOp, Sem.run_bind, Sem.run_pure, Result.andThen_ok]
  rw [show Op.equal t (.nilFunc) .nilFunc = Op.equalIn (9999 + 1) t (.nilFunc) .nilFunc from rfl, h]
  rfl
instance {t : TypeId} {x1 x2 : Array TypeId} {x3 : Bool} [ht : Und P t (.func x1 x2 x3)] : Pu P (.bin .eql t (.nilFunc) .nilFunc) (fun q => q (.bool true)) := ⟨fun E d op ty pos af g hr q hk => by cases hr with | bin e1 e2 => exact ⟨_, DP.eqlfn0 e1 e2 ht.h, hk⟩⟩
theorem DP.neqfn0 {x y : Operand} {t t' : TypeId} {x1 x2 : Array TypeId} {x3 : Bool} (hx : E.eval x = .nilFunc) (hy : E.eval y = .nilFunc) (ht : P.underlying t = some (.func x1 x2 x3)) : DP P E ⟨d, .binOp .neq t x y t', ty, pos, af, g⟩ (.bool false) := by
  unfold DP
  refine ⟨fun _ => by simp, fun w => ?_⟩
  have h := run_fn0 (P := P) 9999 ht w
  simp only [execOp, hx, hy, eqGuard_at_nilFunc, binOp, Sem.run_bind, Sem.run_pure, Result.andThen_ok]
  rw [show Op.equal t (.nilFunc) .nilFunc = Op.equalIn (9999 + 1) t (.nilFunc) .nilFunc from rfl, h]
  rfl
instance {t : TypeId} {x1 x2 : Array TypeId} {x3 : Bool} [ht : Und P t (.func x1 x2 x3)] : Pu P (.bin .neq t (.nilFunc) .nilFunc) (fun q => q (.bool false)) := ⟨fun E d op ty pos af g hr q hk => by cases hr with | bin e1 e2 => exact ⟨_, DP.neqfn0 e1 e2 ht.h, hk⟩⟩
end
instance {b : UInt8} : Inv byteV (.int .u8 ((b.toNat : Nat) : Int)) b True := ⟨fun _ => rfl⟩
section
variable {P : Program} {c : Ctx} {L : List Assn} {E : Env}
/-- Ends of functions of whose results one lies in a cell. -/
theorem TQ.finC2 {fn : Func} {R : List Assn} {B : Value → List Assn → Prop} {C : List PanicEntry → List Assn → Prop} {t t2 b n : Nat} {ty e : TypeId} {us : List Value} {v : Value} [hp : Ag P ty] [hz : Sz P ty n] [hrow : RowAt L b e us]
    (h : Vc (us.length = n + 1) (Fini c L R B (asResult [.agg us.toArray, v]))) (hr : fn.results = #[.cell t ty, .tmp t2] := by rfl) (ht : E.get t = .pointer (some ⟨b, 0, none⟩) := by rfl) (hv : E.get t2 = v := by conv => lhs; whnf) : TQ R0 c L (retQ P fn c R B C) .ret E := by
  obtain ⟨hl, h⟩ := h
  unfold Fini at h
  obtain ⟨L', h3, h4⟩ := h
  exact TQ.ret (vs := [.agg us.toArray, v]) hr ⟨RV.atA ht hp.h hz.h hrow.h hl, hv, rfl⟩ h3 h4
theorem TQ.finC3 {fn : Func} {R : List Assn} {B : Value → List Assn → Prop} {C : List PanicEntry → List Assn → Prop} {t t2 t3 b n : Nat} {ty e : TypeId} {us : List Value} {v v' : Value} [hp : Ag P ty] [hz : Sz P ty n] [hrow : RowAt L b e us]
    (h : Vc (us.length = n + 1) (Fini c L R B (asResult [.agg us.toArray, v, v']))) (hr : fn.results = #[.cell t ty, .tmp t2, .tmp t3] := by rfl) (ht : E.get t = .pointer (some ⟨b, 0, none⟩) := by rfl) (hv : E.get t2 = v := by conv => lhs; whnf) (hv' : E.get t3 = v' := by conv => lhs; whnf) : TQ R0 c L (retQ P fn c R B C) .ret E := by
  obtain ⟨hl, h⟩ := h
  unfold Fini at h
  obtain ⟨L', h3, h4⟩ := h
  exact TQ.ret (vs := [.agg us.toArray, v, v']) hr ⟨RV.atA ht hp.h hz.h hrow.h hl, hv, hv', rfl⟩ h3 h4
instance (priority := 100) {b : Bool} {x y : Value} : Pu P (.pick (.bool b) x y) (fun k => (b = true → k x) ∧ (b = false → k y)) := ⟨fun E d op ty pos af g hr k hk => by
  cases hr with | pick h1 h2 h3 =>
  cases b with
  | true => exact ⟨_, DP.pkT h1 h2, hk.1 rfl⟩
  | false => exact ⟨_, DP.pkF h1 h3, hk.2 rfl⟩⟩
end
/-! which part is read: rows -/
instance (priority := 900) {a b : TypeId} {p o n k : Nat} {e : TypeId} {cs : List Value} {L R : List Assn} [h : RowDel L p e cs R] : LkA (.conv a b (.slice (some ⟨p, o, none⟩) n k)) L (row e p cs) R := ⟨h.h⟩
instance {t e : TypeId} {b o : Nat} {cs : List Value} {L R : List Assn} [h : RowDel L b e cs R] : LkA (.load t (.pointer (some ⟨b, o, none⟩))) L (row e b cs) R := ⟨h.h⟩
instance (priority := 1100) {a b : TypeId} {p o n k : Nat} {e : TypeId} {cs : List Value} {K : List Assn} : LkB (.conv a b (.slice (some ⟨p, o, none⟩) n k)) (lk (row e p cs) :: K) (row e p cs) := ⟨_, .head _ _⟩
instance (priority := 1100) {t e : TypeId} {b o : Nat} {cs : List Value} {K : List Assn} : LkB (.load t (.pointer (some ⟨b, o, none⟩))) (lk (row e b cs) :: K) (row e b cs) := ⟨_, .head _ _⟩
end Pw


namespace Pw
open Go
/-! ## Slices that are only read: nothing is said of what lies behind their end -/
def rdL (e : TypeId) (sz : Nat) (v : Value) (n : Nat) (xs : List Value) : Assn := fun f =>
  (v = .slice none 0 0 ∧ n = 0 ∧ xs = []) ∨ ∃ b k rest, v = .slice (some ⟨b, 0, none⟩) n k ∧ xs.length = n * sz ∧ row e b (xs ++ rest) f
class RdMem (L : List Assn) (v : Value) (e : outParam TypeId) (sz n : outParam Nat) (xs : outParam (List Value)) : Prop where h : LMem (rdL e sz v n xs) L
instance (priority := 1100) {L : List Assn} {v : Value} {e : TypeId} {sz n : Nat} {xs : List Value} : RdMem (rdL e sz v n xs :: L) v e sz n xs := ⟨.head _ _⟩
instance {A : Assn} {L : List Assn} {v : Value} {e : TypeId} {sz n : Nat} {xs : List Value} [h : RdMem L v e sz n xs] : RdMem (A :: L) v e sz n xs := ⟨.tail h.h⟩
class RdAt (L : List Assn) (a : Option Addr) (e : outParam TypeId) (sz n k : outParam Nat) (xs : outParam (List Value)) : Prop where h : LMem (rdL e sz (.slice a n k) n xs) L
instance (priority := 1100) {L : List Assn} {a : Option Addr} {e : TypeId} {sz n k : Nat} {xs : List Value} : RdAt (rdL e sz (.slice a n k) n xs :: L) a e sz n k xs := ⟨.head _ _⟩
instance {A : Assn} {L : List Assn} {a : Option Addr} {e : TypeId} {sz n k : Nat} {xs : List Value} [h : RdAt L a e sz n k xs] : RdAt (A :: L) a e sz n k xs := ⟨.tail h.h⟩
section
variable {P : Program} {r : Rd} {c : Ctx} {L R : List Assn} {E : Env} {d : Option Tmp} {ty : TypeId} {pos : String} {af : Array Edge} {g : Option (Nat × Bool)}
theorem D.rdW {o : Oper} {u : Value} {a : Option Addr} {e : TypeId} {sz n k : Nat} {xs : List Value} (hm : LMem (rdL e sz (.slice a n k) n xs) L)
    (h : ∀ w : World, ((n = 0 ∧ xs = []) ∨ ∃ b, a = some ⟨b, 0, none⟩ ∧ xs.length = n * sz ∧ ∀ j x, xs[j]? = some x → w.cell? ⟨b, j, none⟩ = some x) → (execOp E.eval o).run P w = .ok (.value u) w) (hd : ∀ d, o.op ≠ .defer d) : D P c L E o u := by
  unfold D
  refine ⟨hd, fun w hw => h w ?_⟩
  obtain ⟨f1, hsl, hf⟩ := SLh.mem hm hw.2.2.2
  rcases hsl with ⟨_, h0, hx⟩ | ⟨b, k', rest, hv, hl, hrow⟩
  · exact .inl ⟨h0, hx⟩
  · cases hv
    refine .inr ⟨b, rfl, hl, fun j x hx => ?_⟩
    have hj : j < xs.length := by
      rcases Nat.lt_or_ge j xs.length with h | h
      · exact h
      · rw [List.getElem?_eq_none h] at hx; cases hx
    exact Reads.row (e := e) (cs := xs ++ rest) (by rw [List.getElem?_append_left hj]; exact hx) f1 w hrow hf
theorem D.iasR {x y : Operand} {a : Option Addr} {n m i sz : Nat} {t e e' : TypeId} {k : IntKind} {xs : List Value} (hx : E.eval x = .slice a n m) (hy : E.eval y = .int k i) (ht : P.underlying t = some (.slice e)) (hz : P.cellsOf e = sz + 1) (hm : LMem (rdL e' (sz + 1) (.slice a n m) n xs) L) (hi : i < n) :
    D P c L E ⟨d, .indexAddr t x y, ty, pos, af, g⟩ (.pointer (eA a (i * (sz + 1)))) :=
  D.rdW hm (fun w hw => by
    rcases hw with ⟨h0, _⟩ | ⟨b, ha, _, _⟩
    · omega
    · subst ha
      exact (by have := DP.ias (E := E) (P := P) (d := d) (ty := ty) (pos := pos) (af := af) (g := g) hx hy ht hz hi; unfold DP at this; exact this.2 w)) (fun _ => by simp)
theorem D.ldER {x : Operand} {a : Option Addr} {us : List Value} {n j k sz s : Nat} {t e : TypeId} {xs : List Value} (hx : E.eval x = .pointer (eA a j)) (ht : aggT P t = true) (hs : P.cellsOf t = s + 1) (hm : LMem (rdL e sz (.slice a n k) n xs) L) (hu : ∀ i u, us[i]? = some u → xs[j + i]? = some u) (hl : us.length = s + 1) : D P c L E ⟨d, .load t x, ty, pos, af, g⟩ (.agg us.toArray) :=
  D.rdW hm (fun w hw => by
    have h1 := hu 0 us[0] (by simp)
    rcases hw with ⟨_, h0⟩ | ⟨b, ha, _, hr⟩
    · rw [h0] at h1; cases h1
    · subst ha
      rw [eA_some, Nat.zero_add] at hx
      have hc := run_loadCells' (P := P) (w := w) (b := b) (o := j) (vs := us) (fun i u hj => hr _ u (hu i u hj))
      rw [hl] at hc
      simp [execOp, hx, Instr.loadAt, Instr.sureAddr, loadVar, run_isAgg_agg ht, run_sizeOf hs, hc]) (fun _ => by simp)
instance (priority := 850) {x : Int} {t e e' : TypeId} {a : Option Addr} {n m i sz sz' : Nat} {k : IntKind} {xs : List Value} [ht : Und P t (.slice e)] [hz : Sz P e sz] [hm : RdMem L (.slice a n m) e' sz' n xs] [h1 : Nn x i] : Re P c L (.indexAddr t (.slice a n m) (.int k x)) (fun q => Vc (sz' = sz + 1 ∧ i < n) (q (.pointer (eA a (i * sz'))))) :=
  ⟨fun E d op ty pos af g hs q hq => by
    cases hs with | indexAddr e1 e2 =>
    rw [h1.h] at e2
    obtain ⟨⟨rfl, hi⟩, hq⟩ := hq
    exact ⟨_, D.iasR e1 e2 ht.h hz.h hm.h hi, hq⟩⟩
instance (priority := 950) {α : Type} [Inhabited α] {f : α → List Value} {l : List α} {t e : TypeId} {a : Option Addr} {i n k sz s : Nat} [hp : Ag P t] [hz : Sz P t s] [hr : RdAt L a e sz n k (l.flatMap f)] [hf : FLen f sz] : Re P c L (.load t (.pointer (eA a (i * sz)))) (fun q => Vc (sz = s + 1 ∧ i < l.length) (q (.agg (f (gt l i)).toArray))) :=
  ⟨fun E d op ty pos af g hs q hq => by
    cases hs with | load e1 =>
    obtain ⟨⟨hz2, hi⟩, hq⟩ := hq
    exact ⟨_, D.ldER e1 hp.h hz.h hr.h (flat_elem hf.h (gt_get hi)) (by rw [hf.h, hz2]), hq⟩⟩
/-- What may be written may be read. -/
theorem Imp.rd {e : TypeId} {sz n : Nat} {v : Value} {xs : List Value} {L R : List Assn} (h : Del (Pw.sl e sz v n xs) L R) : Imp L (rdL e sz v n xs :: R) := fun f hf => by
  have h1 := hf.perm h.perm
  exact SLh.imp (fun f hs => by
    rcases hs with h2 | ⟨b, k, rest, h3, h4, h5, h6⟩
    · exact .inl h2
    · exact .inr ⟨b, n + k, rest, h3, h4, h6⟩) h1
/-- .. with its end cut to its length. -/
theorem Imp.rdC {e : TypeId} {b n k sz : Nat} {xs rest : List Value} {L R : List Assn} (hx : xs.length = n * sz) (h : Del (Pw.row e b (xs ++ rest)) L R) : Imp L (rdL e sz (.slice (some ⟨b, 0, none⟩) n k) n xs :: R) := fun f hf => by
  have h1 := hf.perm h.perm
  exact SLh.imp (fun f hs => .inr ⟨b, k, rest, rfl, hx, hs⟩) h1
theorem Imp.rd0 {e : TypeId} {sz : Nat} {L : List Assn} : Imp L (rdL e sz (.slice none 0 0) 0 [] :: L) := fun f hf =>
  ⟨fun _ => none, f, fun _ => .inl rfl, fun _ _ h => by simp at h, fun _ _ h => h, .inl ⟨rfl, rfl, rfl⟩, hf⟩
end
/-! s[:j:m] -/
section
variable {P : Program} {E : Env} {d : Option Tmp} {ty : TypeId} {pos : String} {af : Array Edge} {g : Option (Nat × Bool)}
theorem run_slice3hm (isS : Bool) (len cap j m : Nat) (k' k'' : IntKind) (h2 : j ≤ m) (h3 : m ≤ cap) (w : World) : (Instr.sliceBounds isS len cap none (some (.int k' j)) (some (.int k'' m))).run P w = .ok (0, j, m) w := by
  simp [Instr.sliceBounds, run_bound k' j m _ h2, run_bound k'' m cap _ h3]
theorem DP.slShm {x z u : Operand} {b o len cap j m n : Nat} {t e : TypeId} {k' k'' : IntKind} (hx : E.eval x = .slice (some ⟨b, o, none⟩) len cap) (hz : E.eval z = .int k' j) (hu : E.eval u = .int k'' m) (ht : P.underlying t = some (.slice e)) (hs : P.cellsOf e = n + 1) (h2 : j ≤ m) (h3 : m ≤ cap) :
    DP P E ⟨d, .slice t x none (some z) (some u), ty, pos, af, g⟩ (.slice (some ⟨b, o, none⟩) j m) := by
  unfold DP
  refine ⟨fun _ => by simp, fun w => ?_⟩
  simp [execOp, hx, hz, hu, Instr.sliceAt, Instr.slice, run_underlying ht, run_slice3hm _ _ _ j m _ _ h2 h3, run_sizeOf hs]
  intro _; rfl
theorem DP.slShm0 {x z u : Operand} {n : Nat} {t e : TypeId} {k' k'' : IntKind} (hx : E.eval x = .slice none 0 0) (hz : E.eval z = .int k' (0 : Nat)) (hu : E.eval u = .int k'' (0 : Nat)) (ht : P.underlying t = some (.slice e)) (hs : P.cellsOf e = n + 1) :
    DP P E ⟨d, .slice t x none (some z) (some u), ty, pos, af, g⟩ (.slice none 0 0) := by
  unfold DP
  refine ⟨fun _ => by simp, fun w => ?_⟩
  have hb : (Instr.sliceBounds true 0 0 none (some (.int k' 0)) (some (.int k'' 0))).run P w = .ok (0, 0, 0) w := run_slice3hm true 0 0 0 0 k' k'' (Nat.le_refl 0) (Nat.le_refl 0) w
  simp [execOp, hx, hz, hu, Instr.sliceAt, Instr.slice, run_underlying ht, hb, run_sizeOf hs]
instance {b o len cap j m n : Nat} {y z : Int} {t e : TypeId} {k' k2 : IntKind} [ht : Und P t (.slice e)] [hs : Sz P e n] [hy : Nn y j] [hz : Nn z m] : Pu P (.slice t (.slice (some ⟨b, o, none⟩) len cap) none (some (.int k' y)) (some (.int k2 z))) (fun q => Vc (j ≤ m ∧ m ≤ cap) (q (.slice (some ⟨b, o, none⟩) j m))) :=
  ⟨fun E d op ty pos af g hr q hq => by
    cases hr with | @slice _ _ lo hi mx _ _ _ _ e1 e2 e3 e4 =>
    cases lo with | some _ => simp at e2 | none =>
    cases hi with | none => simp at e3 | some hi =>
    cases mx with | none => simp at e4 | some mx =>
    simp only [Option.map_some, Option.some.injEq] at e3 e4
    rw [hy.h] at e3; rw [hz.h] at e4
    exact ⟨_, DP.slShm e1 e3 e4 ht.h hs.h hq.l.1 hq.l.2, hq.r⟩⟩
instance {n : Nat} {y z : Int} {t e : TypeId} {k' k2 : IntKind} [ht : Und P t (.slice e)] [hs : Sz P e n] [hy : Nn y 0] [hz : Nn z 0] : Pu P (.slice t (.slice none 0 0) none (some (.int k' y)) (some (.int k2 z))) (fun q => q (.slice none 0 0)) :=
  ⟨fun E d op ty pos af g hr q hq => by
    cases hr with | @slice _ _ lo hi mx _ _ _ _ e1 e2 e3 e4 =>
    cases lo with | some _ => simp at e2 | none =>
    cases hi with | none => simp at e3 | some hi =>
    cases mx with | none => simp at e4 | some mx =>
    simp only [Option.map_some, Option.some.injEq] at e3 e4
    rw [hy.h] at e3; rw [hz.h] at e4
    exact ⟨_, DP.slShm0 e1 e3 e4 ht.h hs.h, hq⟩⟩
end
end Pw


namespace Pw
open Go
/-! ## Inputs: slices of the heap as it was, beside the block 0 that is held apart -/
/-- What is not block 0 is as it was. -/
def oldX (h : Array Obj) : Assn := fun f => ∀ (b : Nat) (o : Obj), b ≠ 0 → h[b]? = some o → f b = some o
class OldAt (L : List Assn) (h : outParam (Array Obj)) : Prop where h : LMem (oldX h) L
instance (priority := 1100) {L : List Assn} {h : Array Obj} : OldAt (oldX h :: L) h := ⟨.head _ _⟩
instance {A : Assn} {L : List Assn} {h : Array Obj} [k : OldAt L h] : OldAt (A :: L) h := ⟨.tail k.h⟩
class Pt0 (L : List Assn) (o : outParam Obj) : Prop where h : LMem (pt 0 o) L
class InpC (hp : Array Obj) (o0 : Obj) (a : Option Addr) (sz n k : outParam Nat) (xs : outParam (List Value)) : Prop where
  h : Inp hp sz n (.slice a n k) xs
  z : hp[0]? = some o0
class FoA (j fo : Nat) (q : outParam Nat) : Prop where h : j + fo = q
instance {i sz fo : Nat} : FoA (i * sz) fo (i * sz + fo) := ⟨rfl⟩
instance {i sz o fo q : Nat} [h : Ad o fo q] : FoA (i * sz + o) fo (i * sz + q) := ⟨by rw [Nat.add_assoc, h.h]⟩
class PrtI (o n : Nat) (cs : List Value) (us : outParam (List Value)) : Prop where
  h : ∀ i v, us[i]? = some v → cs[o + i]? = some v
  l : us.length = n
instance {cs : List Value} : PrtI 0 0 cs [] := ⟨fun i v h => (by cases h), rfl⟩
instance {n : Nat} {c : Value} {cs us : List Value} [h : PrtI 0 n cs us] : PrtI 0 (n + 1) (c :: cs) (c :: us) := ⟨fun i v hv => by
  cases i with
  | zero => exact hv
  | succ i => have := h.h i v hv; rw [Nat.zero_add] at this ⊢; exact this, by rw [List.length_cons, h.l]⟩
instance {o n : Nat} {c : Value} {cs us : List Value} [h : PrtI o n cs us] : PrtI (o + 1) n (c :: cs) us := ⟨fun i v hv => by
  rw [show o + 1 + i = (o + i) + 1 by omega]; exact h.h i v hv, h.l⟩
section
variable {P : Program} {r : Rd} {c : Ctx} {L R : List Assn} {E : Env} {d : Option Tmp} {ty : TypeId} {pos : String} {af : Array Edge} {g : Option (Nat × Bool)}
theorem old_now {h : Array Obj} {o0 : Obj} {w : World} (hm : LMem (oldX h) L) (hq : LMem (pt 0 o0) L) (h0 : h[0]? = some o0) (hw : SL c L w) : ∀ (b : Nat) (o : Obj), h[b]? = some o → w.heap[b]? = some o := fun b o hb => by
  by_cases e : b = 0
  · subst e
    obtain ⟨f1, h1, h2⟩ := SLh.mem hq hw.2.2.2
    rw [h0] at hb
    cases hb
    exact h2 _ _ h1
  · obtain ⟨f1, h1, h2⟩ := SLh.mem hm hw.2.2.2
    exact h2 b o (h1 b o e hb)
theorem D.inW {o : Oper} {u : Value} {h : Array Obj} {o0 : Obj} {a : Option Addr} {sz n k : Nat} {xs : List Value} (hm : LMem (oldX h) L) (hq : LMem (pt 0 o0) L) (h0 : h[0]? = some o0) (hI : Inp h sz n (.slice a n k) xs) (hn : 0 < n)
    (hx : ∀ w : World, (∃ b o, a = some ⟨b, o, none⟩ ∧ ∀ j x, xs[j]? = some x → w.cell? ⟨b, o + j, none⟩ = some x) → (execOp E.eval o).run P w = .ok (.value u) w) (hd : ∀ d, o.op ≠ .defer d) : D P c L E o u := by
  unfold D
  refine ⟨hd, fun w hw => hx w ?_⟩
  obtain ⟨_, _, a', cap, hv, h1 | ⟨b, o, ha, hr⟩⟩ := hI
  · omega
  · cases hv
    exact ⟨b, o, ha, fun j x hj => Reads.old (hr j x hj) (fun b => w.heap[b]?) w (fun b o hb => old_now hm hq h0 hw b o hb) (fun _ _ e => e)⟩
instance (priority := 600) {h : Array Obj} {o0 : Obj} {x : Int} {t e : TypeId} {a : Option Addr} {n m i sz sz' n' m' : Nat} {k : IntKind} {xs : List Value} [ht : Und P t (.slice e)] [hz : Sz P e sz] [ho : OldAt L h] [hp : Pt0 L o0] [hI : InpC h o0 a sz' n' m' xs] [h1 : Nn x i] : Re P c L (.indexAddr t (.slice a n m) (.int k x)) (fun q => Vc (n = n' ∧ m = m' ∧ sz' = sz + 1 ∧ i < n) (q (.pointer (eA a (i * sz'))))) :=
  ⟨fun E d op ty pos af g hs q hq => by
    cases hs with | indexAddr e1 e2 =>
    rw [h1.h] at e2
    obtain ⟨⟨rfl, rfl, rfl, hi⟩, hq⟩ := hq
    refine ⟨_, D.inW ho.h hp.h hI.z hI.h (by omega) (fun w hw => ?_) (fun _ => by simp), hq⟩
    obtain ⟨b, o, rfl, _⟩ := hw
    exact (by have := DP.ias (E := E) (P := P) (d := d) (ty := ty) (pos := pos) (af := af) (g := g) e1 e2 ht.h hz.h hi; unfold DP at this; exact this.2 w)⟩
instance (priority := 600) {h : Array Obj} {o0 : Obj} {t ft : TypeId} {a : Option Addr} {j k fo n m q sz j' : Nat} {xs : List Value} {fs : List Field} {nm tg pk : String} {em : Bool} {bo : Nat} [ht : Und P t (.struct fs.toArray)] [hf : GL fs k ⟨nm, ft, fo, em, tg, pk, bo⟩] [hz : Sz P ft m] [ho : OldAt L h] [hp : Pt0 L o0] [hI : InpC h o0 a sz n q xs] [hj : FoA j fo j'] : Re P c L (.fieldAddr t (.pointer (eA a j)) k) (fun z => Vc (0 < n) (z (.pointer (eA a j')))) :=
  ⟨fun E d op ty pos af g hs z hq => by
    cases hs with | fieldAddr e1 =>
    refine ⟨_, D.inW ho.h hp.h hI.z hI.h hq.l (fun w hw => ?_) (fun _ => by simp), hq.r⟩
    obtain ⟨b, o, rfl, _⟩ := hw
    rw [eA_some] at e1
    have e : (eA (some ⟨b, o, none⟩) j') = some ⟨b, (o + j) + fo, none⟩ := by rw [eA_some, ← hj.h, Nat.add_assoc]
    rw [e]
    exact (by have := DP.fa (E := E) (P := P) (d := d) (ty := ty) (pos := pos) (af := af) (g := g) fo e1 ht.h (by have := hf.h; simpa using this) rfl hz.h; unfold DP at this; exact this.2 w)⟩
instance (priority := 600) {h : Array Obj} {o0 : Obj} {t : TypeId} {a : Option Addr} {j n k sz : Nat} {xs : List Value} {v : Value} {C : Prop} [hp : Pl P t] [ho : OldAt L h] [hq0 : Pt0 L o0] [hI : InpC h o0 a sz n k xs] [hv : ElV xs j v C] : Re P c L (.load t (.pointer (eA a j))) (fun q => Vc (C ∧ 0 < n) (q v)) :=
  ⟨fun E d op ty pos af g hs q hq => by
    cases hs with | load e1 =>
    refine ⟨_, D.inW ho.h hq0.h hI.z hI.h hq.l.2 (fun w hw => ?_) (fun _ => by simp), hq.r⟩
    obtain ⟨b, o, rfl, hr⟩ := hw
    rw [eA_some] at e1
    have hc := hr j v (hv.h hq.l.1)
    simp [execOp, e1, Instr.loadAt, Instr.sureAddr, loadVar, run_isAgg_plain hp.h, hc]⟩
instance {α : Type} [Inhabited α] {l : List α} {f : α → List Value} {i sz : Nat} {v : Value} [hf : FLen f sz] [hg : GL (f (gt l i)) 0 v] : ElV (l.flatMap f) (i * sz) v (i < l.length) := ⟨fun h => flat_elem hf.h (gt_get h) 0 v hg.h⟩
theorem D.inA {h : Array Obj} {o0 : Obj} {t : TypeId} {x : Operand} {a : Option Addr} {j n k sz s : Nat} {xs us : List Value} (hp : aggT P t = true) (hz : P.cellsOf t = s + 1) (hm : LMem (oldX h) L) (hq : LMem (pt 0 o0) L) (h0 : h[0]? = some o0) (hI : Inp h sz n (.slice a n k) xs) (hn : 0 < n) (e1 : E.eval x = .pointer (eA a j)) (hu : ∀ i u, us[i]? = some u → xs[j + i]? = some u) (hl : us.length = s + 1) : D P c L E ⟨d, .load t x, ty, pos, af, g⟩ (.agg us.toArray) := by
  refine D.inW hm hq h0 hI hn (fun w hw => ?_) (fun _ => by simp)
  obtain ⟨b, o, rfl, hr⟩ := hw
  rw [eA_some] at e1
  have hc := run_loadCells' (P := P) (w := w) (b := b) (o := o + j) (vs := us) (fun i u hi => by have := hr _ u (hu i u hi); rw [← Nat.add_assoc] at this; exact this)
  rw [hl] at hc
  simp [execOp, e1, Instr.loadAt, Instr.sureAddr, loadVar, run_isAgg_agg hp, run_sizeOf hz, hc]
instance (priority := 600) {h : Array Obj} {o0 : Obj} {α : Type} [Inhabited α] {f : α → List Value} {l : List α} {t : TypeId} {a : Option Addr} {i o n k sz s : Nat} {us : List Value} [hp : Ag P t] [hz : Sz P t s] [ho : OldAt L h] [hq0 : Pt0 L o0] [hI : InpC h o0 a sz n k (l.flatMap f)] [hf : FLen f sz] [hu : PrtI o (s + 1) (f (gt l i)) us] : Re P c L (.load t (.pointer (eA a (i * sz + o)))) (fun q => Vc (i < l.length ∧ 0 < n) (q (.agg us.toArray))) :=
  ⟨fun E d op ty pos af g hs q hq => by
    cases hs with | load e1 =>
    exact ⟨_, D.inA hp.h hz.h ho.h hq0.h hI.z hI.h hq.l.2 e1 (fun j u hj => by rw [Nat.add_assoc]; exact flat_elem hf.h (gt_get hq.l.1) _ u (hu.h j u hj)) hu.l, hq.r⟩⟩
instance (priority := 600) {h : Array Obj} {o0 : Obj} {α : Type} [Inhabited α] {f : α → List Value} {l : List α} {t : TypeId} {a : Option Addr} {i n k sz s : Nat} {us : List Value} [hp : Ag P t] [hz : Sz P t s] [ho : OldAt L h] [hq0 : Pt0 L o0] [hI : InpC h o0 a sz n k (l.flatMap f)] [hf : FLen f sz] [hu : PrtI 0 (s + 1) (f (gt l i)) us] : Re P c L (.load t (.pointer (eA a (i * sz)))) (fun q => Vc (i < l.length ∧ 0 < n) (q (.agg us.toArray))) :=
  ⟨fun E d op ty pos af g hs q hq => by
    cases hs with | load e1 =>
    exact ⟨_, D.inA hp.h hz.h ho.h hq0.h hI.z hI.h hq.l.2 e1 (fun j u hj => flat_elem hf.h (gt_get hq.l.1) _ u (by have := hu.h j u hj; rw [Nat.zero_add] at this; exact this)) hu.l, hq.r⟩⟩
end
end Pw


namespace Pw
open Go
/-! ## Inputs: slices of the heap as it was (no block of it held apart) -/
class OldB (L : List Assn) (h : outParam (Array Obj)) : Prop where h : LMem (old h) L
instance (priority := 1100) {L : List Assn} {h : Array Obj} : OldB (old h :: L) h := ⟨.head _ _⟩
instance {A : Assn} {L : List Assn} {h : Array Obj} [k : OldB L h] : OldB (A :: L) h := ⟨.tail k.h⟩
class InpD (hp : Array Obj) (a : Option Addr) (sz n k : outParam Nat) (xs : outParam (List Value)) : Prop where h : Inp hp sz n (.slice a n k) xs
section
variable {P : Program} {r : Rd} {c : Ctx} {L R : List Assn} {E : Env} {d : Option Tmp} {ty : TypeId} {pos : String} {af : Array Edge} {g : Option (Nat × Bool)}
theorem old_now2 {h : Array Obj} {w : World} (hm : LMem (old h) L) (hw : SL c L w) : ∀ (b : Nat) (o : Obj), h[b]? = some o → w.heap[b]? = some o := fun b o hb => by
  obtain ⟨f1, h1, h2⟩ := SLh.mem hm hw.2.2.2
  exact h2 b o (h1 b o hb)
theorem D.inW2 {o : Oper} {u : Value} {h : Array Obj} {a : Option Addr} {sz n k : Nat} {xs : List Value} (hm : LMem (old h) L) (hI : Inp h sz n (.slice a n k) xs) (hn : 0 < n)
    (hx : ∀ w : World, (∃ b o, a = some ⟨b, o, none⟩ ∧ ∀ j x, xs[j]? = some x → w.cell? ⟨b, o + j, none⟩ = some x) → (execOp E.eval o).run P w = .ok (.value u) w) (hd : ∀ d, o.op ≠ .defer d) : D P c L E o u := by
  unfold D
  refine ⟨hd, fun w hw => hx w ?_⟩
  obtain ⟨_, _, a', cap, hv, h1 | ⟨b, o, ha, hr⟩⟩ := hI
  · omega
  · cases hv
    exact ⟨b, o, ha, fun j x hj => Reads.old (hr j x hj) (fun b => w.heap[b]?) w (fun b o hb => old_now2 hm hw b o hb) (fun _ _ e => e)⟩
instance (priority := 600) {h : Array Obj} {x : Int} {t e : TypeId} {a : Option Addr} {n m i sz sz' n' m' : Nat} {k : IntKind} {xs : List Value} [ht : Und P t (.slice e)] [hz : Sz P e sz] [ho : OldB L h] [hI : InpD h a sz' n' m' xs] [h1 : Nn x i] : Re P c L (.indexAddr t (.slice a n m) (.int k x)) (fun q => Vc (n = n' ∧ m = m' ∧ sz' = sz + 1 ∧ i < n) (q (.pointer (eA a (i * sz'))))) :=
  ⟨fun E d op ty pos af g hs q hq => by
    cases hs with | indexAddr e1 e2 =>
    rw [h1.h] at e2
    obtain ⟨⟨rfl, rfl, rfl, hi⟩, hq⟩ := hq
    refine ⟨_, D.inW2 ho.h hI.h (by omega) (fun w hw => ?_) (fun _ => by simp), hq⟩
    obtain ⟨b, o, rfl, _⟩ := hw
    exact (by have := DP.ias (E := E) (P := P) (d := d) (ty := ty) (pos := pos) (af := af) (g := g) e1 e2 ht.h hz.h hi; unfold DP at this; exact this.2 w)⟩
instance (priority := 600) {h : Array Obj} {t ft : TypeId} {a : Option Addr} {j k fo n m q sz j' : Nat} {xs : List Value} {fs : List Field} {nm tg pk : String} {em : Bool} {bo : Nat} [ht : Und P t (.struct fs.toArray)] [hf : GL fs k ⟨nm, ft, fo, em, tg, pk, bo⟩] [hz : Sz P ft m] [ho : OldB L h] [hI : InpD h a sz n q xs] [hj : FoA j fo j'] : Re P c L (.fieldAddr t (.pointer (eA a j)) k) (fun z => Vc (0 < n) (z (.pointer (eA a j')))) :=
  ⟨fun E d op ty pos af g hs z hq => by
    cases hs with | fieldAddr e1 =>
    refine ⟨_, D.inW2 ho.h hI.h hq.l (fun w hw => ?_) (fun _ => by simp), hq.r⟩
    obtain ⟨b, o, rfl, _⟩ := hw
    rw [eA_some] at e1
    have e : (eA (some ⟨b, o, none⟩) j') = some ⟨b, (o + j) + fo, none⟩ := by rw [eA_some, ← hj.h, Nat.add_assoc]
    rw [e]
    exact (by have := DP.fa (E := E) (P := P) (d := d) (ty := ty) (pos := pos) (af := af) (g := g) fo e1 ht.h (by have := hf.h; simpa using this) rfl hz.h; unfold DP at this; exact this.2 w)⟩
instance (priority := 600) {h : Array Obj} {t : TypeId} {a : Option Addr} {j n k sz : Nat} {xs : List Value} {v : Value} {C : Prop} [hp : Pl P t] [ho : OldB L h] [hI : InpD h a sz n k xs] [hv : ElV xs j v C] : Re P c L (.load t (.pointer (eA a j))) (fun q => Vc (C ∧ 0 < n) (q v)) :=
  ⟨fun E d op ty pos af g hs q hq => by
    cases hs with | load e1 =>
    refine ⟨_, D.inW2 ho.h hI.h hq.l.2 (fun w hw => ?_) (fun _ => by simp), hq.r⟩
    obtain ⟨b, o, rfl, hr⟩ := hw
    rw [eA_some] at e1
    have hc := hr j v (hv.h hq.l.1)
    simp [execOp, e1, Instr.loadAt, Instr.sureAddr, loadVar, run_isAgg_plain hp.h, hc]⟩
theorem D.inA2 {h : Array Obj} {t : TypeId} {x : Operand} {a : Option Addr} {j n k sz s : Nat} {xs us : List Value} (hp : aggT P t = true) (hz : P.cellsOf t = s + 1) (hm : LMem (old h) L) (hI : Inp h sz n (.slice a n k) xs) (hn : 0 < n) (e1 : E.eval x = .pointer (eA a j)) (hu : ∀ i u, us[i]? = some u → xs[j + i]? = some u) (hl : us.length = s + 1) : D P c L E ⟨d, .load t x, ty, pos, af, g⟩ (.agg us.toArray) := by
  refine D.inW2 hm hI hn (fun w hw => ?_) (fun _ => by simp)
  obtain ⟨b, o, rfl, hr⟩ := hw
  rw [eA_some] at e1
  have hc := run_loadCells' (P := P) (w := w) (b := b) (o := o + j) (vs := us) (fun i u hi => by have := hr _ u (hu i u hi); rw [← Nat.add_assoc] at this; exact this)
  rw [hl] at hc
  simp [execOp, e1, Instr.loadAt, Instr.sureAddr, loadVar, run_isAgg_agg hp, run_sizeOf hz, hc]
instance (priority := 600) {h : Array Obj} {α : Type} [Inhabited α] {f : α → List Value} {l : List α} {t : TypeId} {a : Option Addr} {i o n k sz s : Nat} {us : List Value} [hp : Ag P t] [hz : Sz P t s] [ho : OldB L h] [hI : InpD h a sz n k (l.flatMap f)] [hf : FLen f sz] [hu : PrtI o (s + 1) (f (gt l i)) us] : Re P c L (.load t (.pointer (eA a (i * sz + o)))) (fun q => Vc (i < l.length ∧ 0 < n) (q (.agg us.toArray))) :=
  ⟨fun E d op ty pos af g hs q hq => by
    cases hs with | load e1 =>
    exact ⟨_, D.inA2 hp.h hz.h ho.h hI.h hq.l.2 e1 (fun j u hj => by rw [Nat.add_assoc]; exact flat_elem hf.h (gt_get hq.l.1) _ u (hu.h j u hj)) hu.l, hq.r⟩⟩
instance (priority := 600) {h : Array Obj} {α : Type} [Inhabited α] {f : α → List Value} {l : List α} {t : TypeId} {a : Option Addr} {i n k sz s : Nat} {us : List Value} [hp : Ag P t] [hz : Sz P t s] [ho : OldB L h] [hI : InpD h a sz n k (l.flatMap f)] [hf : FLen f sz] [hu : PrtI 0 (s + 1) (f (gt l i)) us] : Re P c L (.load t (.pointer (eA a (i * sz)))) (fun q => Vc (i < l.length ∧ 0 < n) (q (.agg us.toArray))) :=
  ⟨fun E d op ty pos af g hs q hq => by
    cases hs with | load e1 =>
    exact ⟨_, D.inA2 hp.h hz.h ho.h hI.h hq.l.2 e1 (fun j u hj => flat_elem hf.h (gt_get hq.l.1) _ u (by have := hu.h j u hj; rw [Nat.zero_add] at this; exact this)) hu.l, hq.r⟩⟩
end
end Pw


/-! ### Maps by keys of any kind; going through a map -/
namespace Pw
open Go Go.MapKept
section
variable {κ υ : Type} [DecidableEq κ]
/-- An entry: key, value, stamp. -/
def mkE (ek : κ → Value) (ev : υ → Value) (x : κ × υ × Nat) : MapEntry := { key := ek x.1, val := ev x.2.1, born := x.2.2 }
structure EsOk (es : List (κ × υ × Nat)) (clock : Nat) : Prop where
  kd : (es.map (·.1)).Nodup
  nd : (es.map (·.2.2)).Nodup
  lt : ∀ x ∈ es, x.2.2 < clock
def mapG (ek : κ → Value) (ev : υ → Value) (b : Nat) (l : List (κ × υ)) : Assn := fun f => ∃ (es : List (κ × υ × Nat)) (clock : Nat), es.map (fun x => (x.1, x.2.1)) = l ∧ EsOk es clock ∧ f b = some (.map (es.map (mkE ek ev)).toArray clock)
/-- A map that is gone through: what it holds, what was handed out. -/
def rngG (ek : κ → Value) (ev : υ → Value) (i : Nat) (x : Nat × List (κ × υ × Nat) × Nat × List Nat) : Assn := fun f => EsOk x.2.1 x.2.2.1 ∧ SLh [pt x.1 (.map (x.2.1.map (mkE ek ev)).toArray x.2.2.1), pt i (.mapIter (some x.1) x.2.2.1 x.2.2.2.toArray x.2.2.1)] f
def posK : List (κ × υ × Nat) → κ → Option (Nat × υ)
  | [], _ => none
  | x :: l, k => if x.1 = k then some (0, x.2.1) else (posK l k).map fun y => (y.1 + 1, y.2)
def atG (l : List (κ × υ)) (k : κ) : Option υ := (l.find? fun x => decide (x.1 = k)).map (·.2)
def delG (l : List (κ × υ)) (k : κ) : List (κ × υ) := l.filter fun x => decide (x.1 ≠ k)
class KeyT (P : Program) (kt : TypeId) (ek : κ → Value) : Prop where
  eq : ∀ a b w, (Op.equal kt (ek a) (ek b)).run P w = .ok (decide (a = b)) w
  now : ∃ d, P.underlying kt = some d ∧ ∀ a b, Instr.sameNow d (ek a) (ek b) = none
  chk : ∀ a e w, (Instr.checkKey e 10000 kt (ek a)).run P w = .ok () w
class KInv (ek : κ → Value) (v : Value) (k : outParam κ) : Prop where h : ek k = v
theorem posK_at {es : List (κ × υ × Nat)} {k : κ} : (posK es k).map (·.2) = atG (es.map fun x => (x.1, x.2.1)) k := by
  induction es with
  | nil => rfl
  | cons x l ih =>
    unfold posK atG
    simp only [List.map_cons, List.find?_cons]
    by_cases h : x.1 = k
    · simp [h]
    · simp only [h, if_false, decide_false]
      rw [show ((l.map fun x => (x.1, x.2.1)).find? fun x => decide (x.1 = k)).map (·.2) = atG (l.map fun x => (x.1, x.2.1)) k from rfl, ← ih]
      cases posK l k <;> rfl
theorem posK_none {es : List (κ × υ × Nat)} {k : κ} (h : posK es k = none) : k ∉ es.map (·.1) := by
  induction es with
  | nil => simp
  | cons x l ih =>
    unfold posK at h
    split at h
    · cases h
    · rename_i hx
      rw [List.map_cons, List.mem_cons]
      rintro (h1 | h1)
      · exact hx h1.symm
      · exact ih (by cases hp : posK l k with | none => rfl | some y => rw [hp] at h; cases h) h1
theorem posK_erase {es : List (κ × υ × Nat)} {k : κ} {y : Nat × υ} (hn : (es.map (·.1)).Nodup) (h : posK es k = some y) : es.eraseIdx y.1 = es.filter fun x => decide (x.1 ≠ k) := by
  induction es generalizing y with
  | nil => cases h
  | cons x l ih =>
    unfold posK at h
    rw [List.map_cons, List.nodup_cons] at hn
    split at h
    · rename_i hx
      cases h
      subst hx
      simp only [List.eraseIdx_zero, List.tail_cons, List.filter_cons, ne_eq, not_true_eq_false, decide_false, Bool.false_eq_true, if_false]
      rw [List.filter_eq_self.2]
      intro z hz
      simp only [decide_eq_true_eq]
      intro hk
      exact hn.1 (hk ▸ List.mem_map_of_mem hz)
    · rename_i hx
      cases hp : posK l k with
      | none => rw [hp] at h; cases h
      | some z =>
        rw [hp] at h
        cases h
        simp only [List.eraseIdx_cons_succ, List.filter_cons, ne_eq, hx, not_false_eq_true, decide_true, if_true]
        rw [ih hn.2 hp]
theorem filter_none {es : List (κ × υ × Nat)} {k : κ} (h : posK es k = none) : es.filter (fun x => decide (x.1 ≠ k)) = es := by
  rw [List.filter_eq_self]
  intro z hz
  simp only [decide_eq_true_eq]
  intro hk
  exact posK_none h (hk ▸ List.mem_map_of_mem hz)
theorem EsOk.filter {es : List (κ × υ × Nat)} {c : Nat} (h : EsOk es c) (p : κ × υ × Nat → Bool) : EsOk (es.filter p) c :=
  ⟨h.kd.sublist (List.filter_sublist.map _), h.nd.sublist (List.filter_sublist.map _), fun x hx => h.lt x (List.mem_filter.1 hx).1⟩
theorem EsOk.push {es : List (κ × υ × Nat)} {c : Nat} {k : κ} {v : υ} (h : EsOk es c) (hk : k ∉ es.map (·.1)) : EsOk (es ++ [(k, v, c)]) (c + 1) := by
  refine ⟨?_, ?_, ?_⟩
  · rw [List.map_append, List.nodup_append]
    exact ⟨h.kd, by simp, by intro a ha b hb; simp at hb; subst hb; exact fun e => hk (e ▸ ha)⟩
  · rw [List.map_append, List.nodup_append]
    refine ⟨h.nd, by simp, ?_⟩
    intro a ha b hb
    simp at hb
    subst hb
    obtain ⟨x, hx, rfl⟩ := List.mem_map.1 ha
    exact Nat.ne_of_lt (h.lt x hx)
  · intro x hx
    rcases List.mem_append.1 hx with h1 | h1
    · exact Nat.lt_succ_of_lt (h.lt x h1)
    · simp at h1; subst h1; exact Nat.lt_succ_self _
variable {P : Program} {ek : κ → Value} {ev : υ → Value}
theorem run_findAsking {kt : TypeId} [hk : KeyT P kt ek] (k : κ) (w : World) : ∀ (es : List (κ × υ × Nat)) (i : Nat), (Instr.findAsking kt (ek k) (es.map (mkE ek ev)) i).run P w = .ok ((posK es k).map fun y => (i + y.1, ev y.2)) w
  | [], i => by simp [Instr.findAsking, posK]
  | x :: l, i => by
    have ih := run_findAsking (kt := kt) k w l (i + 1)
    simp only [List.map_cons, Instr.findAsking, Sem.run_bind]
    have h1 : (mkE ek ev x).key = ek x.1 := rfl
    rw [h1, hk.eq, Result.andThen_ok]
    unfold posK
    by_cases h : x.1 = k
    · simp [h, mkE]
    · have h' : ¬ k = x.1 := fun e => h e.symm
      simp only [h', decide_false, Bool.false_eq_true, if_false, h, ih]
      cases posK l k with
      | none => rfl
      | some y => simp; omega
theorem run_findKeyG {kt : TypeId} [hk : KeyT P kt ek] (k : κ) (es : List (κ × υ × Nat)) (w : World) : (Instr.findKey kt (ek k) (es.map (mkE ek ev))).run P w = .ok ((posK es k).map fun y => (y.1, ev y.2)) w := by
  obtain ⟨d, h1, h2⟩ := hk.now
  unfold Instr.findKey
  simp only [Sem.run_bind, run_underlying h1, Result.andThen_ok]
  cases es with
  | nil => simp [Instr.findNow, posK]
  | cons x l =>
    have : Instr.findNow d (ek k) ((x :: l).map (mkE ek ev)) 0 = none := by
      simp only [List.map_cons, Instr.findNow]
      rw [show (mkE ek ev x).key = ek x.1 from rfl, h2]
    rw [this]
    simp only
    rw [run_findAsking (ev := ev) k w (x :: l) 0]
    simp
/-! 'next' at any place -/
theorem run_next_at (w : World) (i bm since c0 : Nat) (seen : Array Nat) (es : Array MapEntry) (clock : Nat) (hi : w.heap[i]? = some (.mapIter (some bm) since seen c0)) (hb : w.heap[bm]? = some (.map es clock)) (hold : ∀ x ∈ es.toList, x.born < since) (hsc : since ≤ c0) :
    ((leftOf es seen).size = 0 ∧ ∀ ty, (Instr.next (.pointer (some ⟨i, 0, none⟩)) false ty).run P w = .ok (.tuple #[.bool false]) w) ∨
    ∃ e ∈ (leftOf es seen).toList, ∃ n, ∀ ty, (Instr.next (.pointer (some ⟨i, 0, none⟩)) false ty).run P w = .ok (.tuple #[.bool true, e.key, e.val]) { w with drawn := w.drawn + n, heap := w.heap.setIfInBounds i (.mapIter (some bm) since (seen.push e.born) clock) } := by
  simp only [Instr.next, getObj, Sem.run_bind, Sem.run, hi, hb, Result.andThen, next_test_false seen es since c0 hold hsc, Bool.false_eq_true, if_false]
  unfold leftOf
  have hmem : ∀ x ∈ (Array.filter (fun e => !seen.contains e.born) es).toList, x.born < since := fun x hx => hold x (by simp at hx ⊢; exact hx.1)
  generalize Array.filter (fun e => !seen.contains e.born) es = L at hmem ⊢
  have e1 : L.filter (fun x => decide (x.born < since)) = L := Array.filter_eq_self.2 (fun x hx => by simpa using hmem x (by simpa using hx))
  have e2 : L.filter (fun x => decide (x.born ≥ since)) = #[] := by
    rw [Array.filter_eq_empty_iff]
    intro x hx
    have := hmem x (by simpa using hx)
    simp
    omega
  simp only [e1, e2, Array.append_empty]
  by_cases h0 : L.size = 0
  · left
    have : L = #[] := Array.eq_empty_of_size_eq_zero h0
    subst this
    refine ⟨rfl, ?_⟩
    simp [choose, Sem.run, Question.forced]
  · right
    have hne : L.isEmpty = false := by simp [Array.isEmpty, h0]
    simp only [hne, Bool.false_eq_true, if_false, Array.empty_append, Array.size_map]
    have hch : ∃ (j n : Nat), j < L.size ∧ (choose (Question.mapNext L.size)).run P w = .ok j { w with drawn := w.drawn + n } := by
      by_cases hf : L.size ≤ 1
      · exact ⟨0, 0, by omega, by simp [choose, Sem.run, Question.forced, hf]⟩
      · exact ⟨w.tape w.drawn (Question.mapNext L.size) % L.size, 1, Nat.mod_lt _ (by omega), by
          simp only [choose, Sem.run, Question.forced, decide_eq_true_eq, hf, if_false, Question.cut]⟩
    obtain ⟨j, n, hj, hrun⟩ := hch
    refine ⟨L[j], by simp, n, fun _ => ?_⟩
    simp only [hrun, Array.getElem?_map, Array.getElem?_eq_getElem hj, Option.map_some, Sem.run_bind, setObj, Sem.run, hi, Result.andThen]
    rfl
end
section
variable {κ υ : Type} [DecidableEq κ] {ek : κ → Value} {ev : υ → Value}
variable {P : Program} {r : Rd} {c : Ctx} {L R : List Assn} {E : Env} {d : Option Tmp} {ty : TypeId} {pos : String} {af : Array Edge} {g : Option (Nat × Bool)}
theorem SL.mapG_at {b : Nat} {l : List (κ × υ)} {w : World} (hw : SL c L w) (hm : LMem (mapG ek ev b l) L) : ∃ es clock, es.map (fun x => (x.1, x.2.1)) = l ∧ EsOk es clock ∧ w.heap[b]? = some (.map (es.map (mkE ek ev)).toArray clock) := by
  obtain ⟨f1, ⟨es, clock, h1, h2, h3⟩, h4⟩ := SLh.mem hm hw.2.2.2
  exact ⟨es, clock, h1, h2, h4 _ _ h3⟩
theorem SL.mapG_open {b : Nat} {l : List (κ × υ)} {w : World} (h : SL c (mapG ek ev b l :: R) w) : ∃ es clock, es.map (fun x => (x.1, x.2.1)) = l ∧ EsOk es clock ∧ SL c (pt b (.map (es.map (mkE ek ev)).toArray clock) :: R) w := by
  obtain ⟨e1, e2, e3, f1, f2, hd, k1, k2, ⟨es, clock, h1, h2, h3⟩, hl⟩ := h
  exact ⟨es, clock, h1, h2, e1, e2, e3, f1, f2, hd, k1, k2, h3, hl⟩
theorem SL.mapG_shut {b : Nat} {es : List (κ × υ × Nat)} {clock : Nat} {w : World} (hk : EsOk es clock) (h : SL c (pt b (.map (es.map (mkE ek ev)).toArray clock) :: R) w) : SL c (mapG ek ev b (es.map fun x => (x.1, x.2.1)) :: R) w := by
  obtain ⟨e1, e2, e3, f1, f2, hd, k1, k2, ha, hl⟩ := h
  exact ⟨e1, e2, e3, f1, f2, hd, k1, k2, ⟨es, clock, rfl, hk, ha⟩, hl⟩
theorem SL.rng_open {i b clock : Nat} {es : List (κ × υ × Nat)} {z : List Nat} {w : World} (h : SL c (rngG ek ev i (b, es, clock, z) :: R) w) : EsOk es clock ∧ SL c (pt b (.map (es.map (mkE ek ev)).toArray clock) :: pt i (.mapIter (some b) clock z.toArray clock) :: R) w := by
  obtain ⟨e1, e2, e3, f1, f2, hd, k1, k2, ⟨ho, ha⟩, hl⟩ := h
  exact ⟨ho, e1, e2, e3, SLh.flat hd k1 k2 ha hl⟩
theorem SL.rng_shut {i b clock : Nat} {es : List (κ × υ × Nat)} {z : List Nat} {w : World} (ho : EsOk es clock) (h : SL c (pt b (.map (es.map (mkE ek ev)).toArray clock) :: pt i (.mapIter (some b) clock z.toArray clock) :: R) w) : SL c (rngG ek ev i (b, es, clock, z) :: R) w := by
  obtain ⟨e1, e2, e3, hs⟩ := h
  obtain ⟨f1, f2, hd, k1, k2, ha, hl⟩ := SLh.shut (Ls := [pt b (.map (es.map (mkE ek ev)).toArray clock), pt i (.mapIter (some b) clock z.toArray clock)]) (R := R) hs
  exact ⟨e1, e2, e3, f1, f2, hd, k1, k2, ⟨ho, ha⟩, hl⟩
/-- The going is over: the map again. -/
theorem Imp.rng_end {i b clock : Nat} {es : List (κ × υ × Nat)} {z : List Nat} : Imp (rngG ek ev i (b, es, clock, z) :: R) (mapG ek ev b (es.map fun x => (x.1, x.2.1)) :: R) := fun f hf => by
  obtain ⟨f1, f2, hd, k1, k2, ⟨ho, ha⟩, hl⟩ := hf
  obtain ⟨g1, g2, hd', j1, j2, hb, hl'⟩ := SLh.flat hd k1 k2 ha hl
  exact ⟨g1, g2, hd', j1, j2, ⟨es, clock, rfl, ho, hb⟩, SLh.tail hl'⟩
theorem N.mmkG {t : TypeId} : N P r c L E ⟨d, .makeMap t none, ty, pos, af, g⟩ (fun v L' => ∃ b, v = .map (some b) ∧ L' = mapG ek ev b [] :: L) := by
  refine N.value (fun _ => by simp) fun w hw => ?_
  refine ⟨.map (some w.heap.size), _, w.alloc (.map #[] 0), ?_, ⟨w.heap.size, rfl, rfl⟩, SL.mapG_shut (es := []) (clock := 0) ⟨List.nodup_nil, List.nodup_nil, by simp⟩ (hw.alloc _)⟩
  simp [execOp, Instr.makeMap, Result.andThen]
theorem D.mlnG {x : Operand} {b : Nat} {l : List (κ × υ)} {t kt et : TypeId} (hx : E.eval x = .map (some b)) (ht : P.underlying t = some (.map kt et)) (hm : LMem (mapG ek ev b l) L) :
    D P c L E ⟨d, .call ⟨.builtin .len, #[x], #[t]⟩, ty, pos, af, g⟩ (.int .i64 (l.length : Nat)) :=
  D.mkW (fun _ => by simp) (fun w hw => by
    obtain ⟨es, clock, h1, h2, hb⟩ := hw.mapG_at hm
    subst h1
    have h1 := MapKept.run_getObj_map (P := P) hb; simp [execOp, resolve, invoke, builtin, hx, Builtin.len_, run_underlying ht, goInt, h1])
theorem D.mlkG {x y : Operand} {b : Nat} {k : κ} {l : List (κ × υ)} {t kt et : TypeId} {z : Value} [hk : KeyT P kt ek] (hx : E.eval x = .map (some b)) (hy : E.eval y = ek k) (ht : P.underlying t = some (.map kt et)) (hz : P.zeroOf et = some z) (hm : LMem (mapG ek ev b l) L) :
    D P c L E ⟨d, .lookup t x y false, ty, pos, af, g⟩ (((atG l k).map ev).getD z) :=
  D.mkW (fun _ => by simp) (fun w hw => by
    obtain ⟨es, clock, h1, h2, hb⟩ := hw.mapG_at hm
    subst h1
    rw [← posK_at]
    simp only [execOp, hx, hy, Instr.lookup, Sem.run_bind, run_underlying ht, Result.andThen_ok, MapKept.run_getObj_map hb, Sem.run_pure, hk.chk, run_findKeyG]
    cases posK es k <;> simp [run_zeroValue hz])
theorem D.mlkG2 {x y : Operand} {b : Nat} {k : κ} {l : List (κ × υ)} {t kt et : TypeId} {z : Value} [hk : KeyT P kt ek] (hx : E.eval x = .map (some b)) (hy : E.eval y = ek k) (ht : P.underlying t = some (.map kt et)) (hz : P.zeroOf et = some z) (hm : LMem (mapG ek ev b l) L) :
    D P c L E ⟨d, .lookup t x y true, ty, pos, af, g⟩ (.tuple #[((atG l k).map ev).getD z, .bool (atG l k).isSome]) :=
  D.mkW (fun _ => by simp) (fun w hw => by
    obtain ⟨es, clock, h1, h2, hb⟩ := hw.mapG_at hm
    subst h1
    rw [← posK_at]
    simp only [execOp, hx, hy, Instr.lookup, Sem.run_bind, run_underlying ht, Result.andThen_ok, MapKept.run_getObj_map hb, Sem.run_pure, hk.chk, run_findKeyG]
    cases posK es k <;> simp [run_zeroValue hz])
theorem N.mupG {x y z : Operand} {b : Nat} {k : κ} {u : υ} {l : List (κ × υ)} {t kt et : TypeId} [hk : KeyT P kt ek] (hx : E.eval x = .map (some b)) (hy : E.eval y = ek k) (hz : E.eval z = ev u) (ht : P.underlying t = some (.map kt et)) (hm : Del (mapG ek ev b l) L R) (hn : k ∉ l.map (·.1)) :
    N P r c L E ⟨d, .mapUpdate t x y z, ty, pos, af, g⟩ (fun v L' => v = undef ∧ L' = mapG ek ev b (l ++ [(k, u)]) :: R) := by
  refine N.skip (fun _ => by simp) fun w hw => ?_
  obtain ⟨es, clock, h1, h2, hw1⟩ := (hw.perm hm.perm).mapG_open
  have hb := hw1.heap (.head _ _)
  subst h1
  have hn' : k ∉ es.map (·.1) := by simpa using hn
  have hp : posK es k = none := by
    cases hp : posK es k with
    | none => rfl
    | some y =>
      exfalso
      have : ∀ (es : List (κ × υ × Nat)) (y : Nat × υ), posK es k = some y → k ∈ es.map (·.1) := by
        intro es
        induction es with
        | nil => intro y h; cases h
        | cons x l ih =>
          intro y h
          unfold posK at h
          split at h
          · rename_i hx; simp [hx]
          · cases hp : posK l k with
            | none => rw [hp] at h; cases h
            | some z => exact List.mem_cons_of_mem _ (ih z hp)
      exact hn' (this es y hp)
  have he : es.map (fun x => (x.1, x.2.1)) ++ [(k, u)] = (es ++ [(k, u, clock)]).map fun x => (x.1, x.2.1) := by simp
  rw [he]
  refine ⟨{ w with heap := w.heap.setIfInBounds b (.map ((es ++ [(k, u, clock)]).map (mkE ek ev)).toArray (clock + 1)) }, ?_, SL.mapG_shut (h2.push hn') (hw1.setObj rfl rfl rfl (heap_set hb).1 (heap_set hb).2)⟩
  simp only [execOp, hx, hy, hz, Instr.mapUpdate, Sem.run_bind, run_underlying ht, Result.andThen_ok, MapKept.run_getObj_map hb, Sem.run_pure, hk.chk, run_findKeyG, hp, Option.map_none, run_setObj_map _ hb]
  simp [mkE]
theorem N.mdlG {x y : Operand} {b : Nat} {k : κ} {l : List (κ × υ)} {t t2 kt et : TypeId} [hk : KeyT P kt ek] (hx : E.eval x = .map (some b)) (hy : E.eval y = ek k) (ht : P.underlying t = some (.map kt et)) (hm : Del (mapG ek ev b l) L R) :
    N P r c L E ⟨d, .call ⟨.builtin .delete, #[x, y], #[t, t2]⟩, ty, pos, af, g⟩ (fun u L' => u = .tuple #[] ∧ L' = mapG ek ev b (delG l k) :: R) := by
  refine N.value (fun _ => by simp) fun w hw => ?_
  obtain ⟨es, clock, h1, h2, hw1⟩ := (hw.perm hm.perm).mapG_open
  have hb := hw1.heap (.head _ _)
  subst h1
  have he : delG (es.map fun x => (x.1, x.2.1)) k = (es.filter fun x => decide (x.1 ≠ k)).map fun x => (x.1, x.2.1) := by
    unfold delG; rw [List.filter_map]; rfl
  rw [he]
  refine ⟨_, _, { w with heap := w.heap.setIfInBounds b (.map ((es.filter fun x => decide (x.1 ≠ k)).map (mkE ek ev)).toArray clock) }, ?_, ⟨rfl, rfl⟩, SL.mapG_shut (h2.filter _) (hw1.setObj rfl rfl rfl (heap_set hb).1 (heap_set hb).2)⟩
  have hf := run_findKeyG (P := P) (kt := kt) (ek := ek) (ev := ev) k es w
  cases hp : posK es k with
  | none =>
    rw [filter_none hp]
    simp [execOp, resolve, invoke, builtin, hx, hy, Builtin.delete_, run_underlying ht, MapKept.run_getObj_map hb, hk.chk, hf, hp, run_setObj_map _ hb]
  | some q =>
    rw [← posK_erase h2.kd hp]
    have e2 : (es.map (mkE ek ev)).toArray.eraseIdxIfInBounds q.1 = ((es.eraseIdx q.1).map (mkE ek ev)).toArray := by
      apply Array.toList_inj.1
      rw [eraseIf]
      simp [eraseIdx_map']
    simp [execOp, resolve, invoke, builtin, hx, hy, Builtin.delete_, run_underlying ht, MapKept.run_getObj_map hb, hk.chk, hf, hp, run_setObj_map _ hb, e2, eraseIdx_map']
theorem N.rngM {x : Operand} {b : Nat} {l : List (κ × υ)} {t kt et : TypeId} (hx : E.eval x = .map (some b)) (ht : P.underlying t = some (.map kt et)) (hm : Del (mapG ek ev b l) L R) :
    N P r c L E ⟨d, .range t x, ty, pos, af, g⟩ (fun v L' => ∃ i es clock, v = .pointer (some ⟨i, 0, none⟩) ∧ es.map (fun x => (x.1, x.2.1)) = l ∧ EsOk es clock ∧ L' = rngG ek ev i (b, es, clock, []) :: R) := by
  refine N.value (fun _ => by simp) fun w hw => ?_
  obtain ⟨es, clock, h1, h2, hw1⟩ := (hw.perm hm.perm).mapG_open
  have hb := hw1.heap (.head _ _)
  refine ⟨.pointer (some ⟨w.heap.size, 0, none⟩), _, w.alloc (.mapIter (some b) clock #[] clock), ?_, ⟨w.heap.size, es, clock, rfl, h1, h2, rfl⟩, SL.rng_shut h2 ((hw1.alloc _).perm (.swap ..))⟩
  have h3 := run_range_map w t kt et b _ clock ht hb
  simp [execOp, hx, h3, Result.andThen]
theorem N.nxtG {x : Operand} {i b clock : Nat} {es : List (κ × υ × Nat)} {z : List Nat} (hx : E.eval x = .pointer (some ⟨i, 0, none⟩)) (hm : Del (rngG ek ev i (b, es, clock, z)) L R) :
    N P r c L E ⟨d, .next x false, ty, pos, af, g⟩ (fun v L' => ((∀ e ∈ es, e.2.2 ∈ z) ∧ v = .tuple #[.bool false] ∧ L' = rngG ek ev i (b, es, clock, z) :: R) ∨ ∃ e ∈ es, e.2.2 ∉ z ∧ v = .tuple #[.bool true, ek e.1, ev e.2.1] ∧ L' = rngG ek ev i (b, es, clock, z ++ [e.2.2]) :: R) := by
  refine N.value (fun _ => by simp) fun w hw => ?_
  obtain ⟨ho, hw1⟩ := SL.rng_open (hw.perm hm.perm)
  have hb := hw1.heap (.head _ _)
  have hi := hw1.heap (.tail (.head _ _))
  rcases run_next_at (P := P) w i b clock clock _ _ clock hi hb (by
      intro e he
      simp only [List.toList_toArray, List.mem_map] at he
      obtain ⟨y, hy, rfl⟩ := he
      exact ho.lt y hy) (Nat.le_refl _) with ⟨h1, h2⟩ | ⟨e, h1, n, h2⟩
  · refine ⟨_, _, w, ?_, .inl ⟨?_, rfl, rfl⟩, SL.rng_shut ho hw1⟩
    · simp [execOp, hx, h2]
    · intro e he
      have := all_seen _ _ h1 (mkE ek ev e) (by simp; exact ⟨_, _, _, he, rfl⟩)
      simpa [mkE] using this
  · have h3 := mem_left h1
    obtain ⟨h4, h5⟩ := h3
    simp only [List.toList_toArray, List.mem_map] at h4
    obtain ⟨y, hy, rfl⟩ := h4
    refine ⟨_, _, { w with drawn := w.drawn + n, heap := w.heap.setIfInBounds i (.mapIter (some b) clock (z.toArray.push y.2.2) clock) }, ?_, .inr ⟨y, hy, ?_, rfl, rfl⟩, SL.rng_shut ho ?_⟩
    · simp only [execOp, hx, Sem.run_bind, h2, Result.andThen_ok]
      rfl
    · simpa [mkE] using h5
    · have hw2 := (hw1.perm (.swap ..)).setObj (w' := { w with drawn := w.drawn + n, heap := w.heap.setIfInBounds i (.mapIter (some b) clock (z.toArray.push y.2.2) clock) }) (o' := .mapIter (some b) clock (z.toArray.push y.2.2) clock) rfl rfl rfl (heap_set hi).1 (heap_set hi).2
      have e3 : (z ++ [y.2.2]).toArray = z.toArray.push y.2.2 := by simp
      rw [e3]
      exact hw2.perm (.swap ..)
theorem D.entG {x : Operand} {i b clock : Nat} {es : List (κ × υ × Nat)} {z : List Nat} {e : κ × υ × Nat} (hx : E.eval x = .pointer (some ⟨i, 0, none⟩)) (hm : Del (rngG ek ev i (b, es, clock, z ++ [e.2.2])) L R) (he : e ∈ es) :
    D P c L E ⟨d, .entry x, ty, pos, af, g⟩ (.tuple #[ek e.1, ev e.2.1]) :=
  D.mkW (fun _ => by simp) (fun w hw => by
    obtain ⟨ho, hw1⟩ := SL.rng_open (hw.perm hm.perm)
    have hb := hw1.heap (.head _ _)
    have hi := hw1.heap (.tail (.head _ _))
    have hn : ((es.map (mkE ek ev)).map (·.born)).Nodup := by rw [List.map_map]; exact ho.nd
    have hf : (es.map (mkE ek ev)).toArray.find? (·.born == (mkE ek ev e).born) = some (mkE ek ev e) := by
      rw [← Array.find?_toList]; exact find_born _ _ hn (List.mem_map_of_mem he)
    have hbk : (z ++ [e.2.2]).toArray.back? = some (mkE ek ev e).born := by simp [mkE]
    simp only [execOp, hx, Instr.entry, getObj, Sem.run_bind, Sem.run, hi, hb, Result.andThen, hbk, bne_self_eq_false, Bool.false_eq_true, if_false, hf]
    rfl)
/-- delete, while the map is gone through. -/
theorem N.mdlR {x y : Operand} {i b clock : Nat} {es : List (κ × υ × Nat)} {z : List Nat} {k : κ} {t t2 kt et : TypeId} [hk : KeyT P kt ek] (hx : E.eval x = .map (some b)) (hy : E.eval y = ek k) (ht : P.underlying t = some (.map kt et)) (hm : Del (Pw.rngG ek ev i (b, es, clock, z)) L R) :
    N P r c L E ⟨d, .call ⟨.builtin .delete, #[x, y], #[t, t2]⟩, ty, pos, af, g⟩ (fun u L' => u = .tuple #[] ∧ L' = Pw.rngG ek ev i (b, es.filter (fun x => decide (x.1 ≠ k)), clock, z) :: R) := by
  refine N.value (fun _ => by simp) fun w hw => ?_
  obtain ⟨h2, hw1⟩ := SL.rng_open (hw.perm hm.perm)
  have hb := hw1.heap (.head _ _)
  refine ⟨_, _, { w with heap := w.heap.setIfInBounds b (.map ((es.filter fun x => decide (x.1 ≠ k)).map (mkE ek ev)).toArray clock) }, ?_, ⟨rfl, rfl⟩, SL.rng_shut (h2.filter _) (hw1.setObj rfl rfl rfl (heap_set hb).1 (heap_set hb).2)⟩
  have hf := run_findKeyG (P := P) (kt := kt) (ek := ek) (ev := ev) k es w
  cases hp : posK es k with
  | none =>
    rw [filter_none hp]
    simp [execOp, resolve, invoke, builtin, hx, hy, Builtin.delete_, run_underlying ht, MapKept.run_getObj_map hb, hk.chk, hf, hp, run_setObj_map _ hb]
  | some q =>
    rw [← posK_erase h2.kd hp]
    have e2 : (es.map (mkE ek ev)).toArray.eraseIdxIfInBounds q.1 = ((es.eraseIdx q.1).map (mkE ek ev)).toArray := by
      apply Array.toList_inj.1
      rw [eraseIf]
      simp [eraseIdx_map']
    simp [execOp, resolve, invoke, builtin, hx, hy, Builtin.delete_, run_underlying ht, MapKept.run_getObj_map hb, hk.chk, hf, hp, run_setObj_map _ hb, e2, eraseIdx_map']
end
/-! Instances -/
/-- A map that is gone through, by the map's place. -/
class RngAt {κ υ : Type} [DecidableEq κ] (ek : κ → Value) (ev : υ → Value) (L : List Assn) (b : Nat) (i : outParam Nat) (x : outParam (List (κ × υ × Nat) × Nat × List Nat)) (R : outParam (List Assn)) : Prop where h : Del (rngG ek ev i (b, x)) L R
/-- What keys and values of a map's type are. -/
class MapTy (P : Program) (t : TypeId) (κ υ : outParam Type) [dk : outParam (DecidableEq κ)] (ek : outParam (κ → Value)) (ev : outParam (υ → Value)) : Prop where
  h : True
section
variable {P : Program} {r : Rd} {c : Ctx} {L R : List Assn} {t kt et : TypeId} {κ υ : Type} [DecidableEq κ] {ek : κ → Value} {ev : υ → Value} {b i : Nat} {l : List (κ × υ)} {x : Int} {n : Nat}
instance (priority := 1100) {es : List (κ × υ × Nat)} {cl : Nat} {z : List Nat} : RngAt ek ev (rngG ek ev i (b, es, cl, z) :: L) b i (es, cl, z) L := ⟨.head _ _⟩
instance {A : Assn} {y : List (κ × υ × Nat) × Nat × List Nat} [h : RngAt ek ev L b i y R] : RngAt ek ev (A :: L) b i y (A :: R) := ⟨.tail h.h⟩
theorem St.mkMapG (ek : κ → Value) (ev : υ → Value) : St P c L (.mkMap t) (fun q => ∀ b, q (.map (some b)) (mapG ek ev b [] :: L)) :=
  ⟨fun r E d op ty pos af g hs q hq => by cases hs with | mkMap => exact (N.mmkG (ek := ek) (ev := ev)).imp fun v L' ⟨b, h1, h2⟩ => by rw [h1, h2]; exact hq b⟩
theorem Re.lenG (ek : κ → Value) (ev : υ → Value) [ht : Und P t (.map kt et)] [hm : Fam (mapG ek ev) L b l R] : Re P c L (.builtin .len [.map (some b)] [t]) (fun q => q (.int .i64 (l.length : Nat))) :=
  ⟨fun E d op ty pos af g hs q hq => by
    cases hs with | builtin e =>
    rename_i xs
    match xs, e with
    | [x], ⟨e1, _⟩ => exact ⟨_, D.mlnG e1 ht.h (Del.lmem hm.h), by simpa using hq⟩⟩
theorem Re.lkG (ek : κ → Value) (ev : υ → Value) {v z : Value} {k : κ} [ht : Und P t (.map kt et)] [hk : KeyT P kt ek] [hz : Zr P et z] [hm : Fam (mapG ek ev) L b l R] [hn : KInv ek v k] : Re P c L (.lookup t (.map (some b)) v false) (fun q => Opt (atG l k) (q z) (fun p => q (ev p))) :=
  ⟨fun E d op ty pos af g hs q hq => by
    cases hs with | lookup e1 e2 =>
    refine ⟨_, D.mlkG (ek := ek) (ev := ev) (k := k) e1 (e2.trans hn.h.symm) ht.h hz.h (Del.lmem hm.h), ?_⟩
    rcases hq with ⟨h1, h2⟩ | ⟨p, h1, h2⟩
    · rw [h1]; exact h2
    · rw [h1]; exact h2⟩
theorem Re.lkG2 (ek : κ → Value) (ev : υ → Value) {v z : Value} {k : κ} [ht : Und P t (.map kt et)] [hk : KeyT P kt ek] [hz : Zr P et z] [hm : Fam (mapG ek ev) L b l R] [hn : KInv ek v k] : Re P c L (.lookup t (.map (some b)) v true) (fun q => Opt (atG l k) (q (.tuple #[z, .bool false])) (fun p => q (.tuple #[ev p, .bool true]))) :=
  ⟨fun E d op ty pos af g hs q hq => by
    cases hs with | lookup e1 e2 =>
    refine ⟨_, D.mlkG2 (ek := ek) (ev := ev) (k := k) e1 (e2.trans hn.h.symm) ht.h hz.h (Del.lmem hm.h), ?_⟩
    rcases hq with ⟨h1, h2⟩ | ⟨p, h1, h2⟩
    · rw [h1]; exact h2
    · rw [h1]; exact h2⟩
theorem St.upG (ek : κ → Value) (ev : υ → Value) {v u : Value} {k : κ} {p : υ} [ht : Und P t (.map kt et)] [hk : KeyT P kt ek] [hm : Fam (mapG ek ev) L b l R] [hn : KInv ek v k] (hu : ev p = u) : St P c L (.update t (.map (some b)) v u) (fun q => Vc (k ∉ l.map (·.1)) (q undef (mapG ek ev b (l ++ [(k, p)]) :: R))) :=
  ⟨fun r E d op ty pos af g hs q hq => by
    cases hs with | update e1 e2 e3 =>
    exact (N.mupG (ek := ek) (ev := ev) (k := k) (u := p) e1 (e2.trans hn.h.symm) (e3.trans hu.symm) ht.h hm.h hq.l).imp fun v L' h => by rw [h.1, h.2]; exact hq.r⟩
theorem St.delG (ek : κ → Value) (ev : υ → Value) {t2 : TypeId} {v : Value} {k : κ} [ht : Und P t (.map kt et)] [hk : KeyT P kt ek] [hm : Fam (mapG ek ev) L b l R] [hn : KInv ek v k] : St P c L (.builtin .delete [.map (some b), v] [t, t2]) (fun q => q (.tuple #[]) (mapG ek ev b (Pw.delG l k) :: R)) :=
  ⟨fun r E d op ty pos af g hs q hq => by
    cases hs with | builtin e =>
    rename_i xs
    match xs, e with
    | [x1, x2], ⟨e1, e2, _⟩ => exact (N.mdlG (ek := ek) (ev := ev) (k := k) e1 (e2.trans hn.h.symm) ht.h hm.h).imp fun v L' h => by rw [h.1, h.2]; exact hq⟩
theorem St.delR (ek : κ → Value) (ev : υ → Value) {t2 : TypeId} {v : Value} {k : κ} {es : List (κ × υ × Nat)} {cl : Nat} {z : List Nat} [ht : Und P t (.map kt et)] [hk : KeyT P kt ek] [hm : RngAt ek ev L b i (es, cl, z) R] [hn : KInv ek v k] : St P c L (.builtin .delete [.map (some b), v] [t, t2]) (fun q => q (.tuple #[]) (rngG ek ev i (b, es.filter (fun x => decide (x.1 ≠ k)), cl, z) :: R)) :=
  ⟨fun r E d op ty pos af g hs q hq => by
    cases hs with | builtin e =>
    rename_i xs
    match xs, e with
    | [x1, x2], ⟨e1, e2, _⟩ => exact (N.mdlR (ek := ek) (ev := ev) (k := k) e1 (e2.trans hn.h.symm) ht.h hm.h).imp fun v L' h => by rw [h.1, h.2]; exact hq⟩
theorem St.rngS (ek : κ → Value) (ev : υ → Value) [ht : Und P t (.map kt et)] [hm : Fam (mapG ek ev) L b l R] : St P c L (.range t (.map (some b))) (fun q => ∀ i es clock, es.map (fun x => (x.1, x.2.1)) = l → EsOk es clock → q (.pointer (some ⟨i, 0, none⟩)) (rngG ek ev i (b, es, clock, []) :: R)) :=
  ⟨fun r E d op ty pos af g hs q hq => by
    cases hs with | range e1 =>
    exact (N.rngM (ek := ek) (ev := ev) e1 ht.h hm.h).imp fun v L' ⟨i, es, clock, h1, h2, h3, h4⟩ => by rw [h1, h4]; exact hq i es clock h2 h3⟩
theorem St.nxtS (ek : κ → Value) (ev : υ → Value) {es : List (κ × υ × Nat)} {cl : Nat} {z : List Nat} [hm : Fam (rngG ek ev) L i (b, es, cl, z) R] : St P c L (.next (.pointer (some ⟨i, 0, none⟩)) false) (fun q => ((∀ e ∈ es, e.2.2 ∈ z) → q (.tuple #[.bool false]) (rngG ek ev i (b, es, cl, z) :: R)) ∧ ∀ e ∈ es, e.2.2 ∉ z → q (.tuple #[.bool true, ek e.1, ev e.2.1]) (rngG ek ev i (b, es, cl, z ++ [e.2.2]) :: R)) :=
  ⟨fun r E d op ty pos af g hs q hq => by
    cases hs with | next e1 =>
    exact (N.nxtG (ek := ek) (ev := ev) e1 hm.h).imp fun v L' h => by
      rcases h with ⟨h1, h2, h3⟩ | ⟨e, h1, h2, h3, h4⟩
      · rw [h2, h3]; exact hq.1 h1
      · rw [h3, h4]; exact hq.2 e h1 h2⟩
theorem Re.entS (ek : κ → Value) (ev : υ → Value) {es : List (κ × υ × Nat)} {cl : Nat} {z : List Nat} {e : κ × υ × Nat} [hm : Fam (rngG ek ev) L i (b, es, cl, z ++ [e.2.2]) R] : Re P c L (.entry (.pointer (some ⟨i, 0, none⟩))) (fun q => Vc (e ∈ es) (q (.tuple #[ek e.1, ev e.2.1]))) :=
  ⟨fun E d op ty pos af g hs q hq => by
    cases hs with | entry e1 =>
    exact ⟨_, D.entG e1 hm.h hq.l, hq.r⟩⟩
end
end Pw


/-! ### strings.Builder -/
namespace Pw
open Go
class IsEsc (P : Program) (f : FuncId) : Prop where h : ∀ args w, (callFunc f args).run P w = (do pure (Next.value (← Extern.AbiNoEscape.same args)) : Sem Next).run P w
section
variable {P : Program} {r : Rd} {c : Ctx} {L R : List Assn}
instance {f : FuncId} {a : Option Addr} [hf : IsEsc P f] : Ext P f [.pointer a] (.pointer a) True :=
  ⟨fun _ w => by rw [hf.h]; rfl⟩
class Lies (P : Program) (t : TypeId) (n : outParam Nat) : Prop where
  i : ∃ j, P.info? t = some j ∧ j.size ≠ 0
  h : liesAt P P.depth t (n / P.cellsOf t) 0 t 1 = true
theorem RowAt.shape {b : Nat} {e : TypeId} {cs : List Value} {w : World} [h : RowAt L b e cs] (hw : SL c L w) : w.shape? b = some (e, cs.length) := by
  obtain ⟨f1, ⟨fr, _, h1⟩, h2⟩ := SLh.mem h.h hw.2.2.2
  have h3 : w.heap[b]? = some (.cells cs.toArray e fr) := h2 _ _ h1
  simp [World.shape?, h3]
instance {s t e : TypeId} {b n : Nat} {cs : List Value} [hs : Und P s (.pointer e)] [ht : Und P t .unsafePointer] [hr : RowAt L b e cs] [hl : Lies P e n] : Re P c L (.conv s t (.pointer (some ⟨b, 0, none⟩))) (fun q => Vc (0 < cs.length) (q (.pointer (some ⟨b, 0, none⟩)))) :=
  ⟨fun E d op ty pos af g hc q hq => by
    cases hc with | conv e1 =>
    obtain ⟨j, h1, h2⟩ := hl.i
    refine ⟨_, D.mkW (fun _ => by simp) (fun w hw => ?_), hq.r⟩
    have h3 := Lib.run_to_unsafe (P := P) w ⟨b, 0, none⟩ hs.h ht.h h1 h2 (hr.shape hw) hq.l
    simp [execOp, e1, h3, Result.andThen]⟩
instance {s t e : TypeId} {b n : Nat} {cs : List Value} [hs : Und P s .unsafePointer] [ht : Und P t (.pointer e)] [hr : RowAt L b e cs] [hl : Lies P e n] : Re P c L (.conv s t (.pointer (some ⟨b, 0, none⟩))) (fun q => Vc (cs.length = n) (q (.pointer (some ⟨b, 0, none⟩)))) :=
  ⟨fun E d op ty pos af g hc q hq => by
    cases hc with | conv e1 =>
    obtain ⟨j, h1, h2⟩ := hl.i
    refine ⟨_, D.mkW (fun _ => by simp) (fun w hw => ?_), hq.r⟩
    have h3 := Lib.run_from_unsafe (P := P) w ⟨b, 0, none⟩ hs.h ht.h h1 (hr.shape hw) (by rw [hq.l]; exact hl.h)
    simp [execOp, e1, h3, Result.andThen]⟩
instance {t e : TypeId} {a : Addr} {n : Nat} [ht : Und P t (.pointer e)] [hl : Lies P e n] : Pu P (.bin .neq t (.pointer (some a)) (.pointer (some a))) (fun q => q (.bool false)) :=
  ⟨fun E d op ty pos af g hc q hq => by
    cases hc with | bin e1 e2 =>
    obtain ⟨j, h1, h2⟩ := hl.i
    refine ⟨_, DP.mk (fun _ => by simp) (fun w => ?_), hq⟩
    have h3 := Lib.run_neq_ptr_same (P := P) w a ht.h h1
    simp only [execOp, e1, e2, eqGuard_at_pointer, Sem.run_bind, Sem.run_pure, Result.andThen_ok, h3]⟩
instance {t : TypeId} {a : Addr} {n k : Nat} : Pu P (.builtin .unsafeSliceData [.slice (some a) n k] [t]) (fun q => Vc (0 < k) (q (.pointer (some a)))) :=
  ⟨fun E d op ty pos af g hs q hq => by
    cases hs with | builtin e =>
    rename_i xs
    match xs, e with
    | [x], ⟨e1, _⟩ =>
      refine ⟨_, DP.mk (fun _ => by simp) (fun w => ?_), hq.r⟩
      have h3 := Lib.run_unsafeSliceData_row (P := P) (w := w) #[t] ty a n k (by have := hq.l; omega)
      simp [execOp, resolve, invoke, builtin, e1, h3, Result.andThen]⟩
/-- unsafe.String: the buffer is given up. -/
instance {t t2 e : TypeId} {b n : Nat} {k : Nat} {l : List UInt8} [ht : Und P t (.pointer e)] [hz : Sz P e 0] [hm : ElAt L (some ⟨b, 0, none⟩) e 1 n k (l.map byteV) R] : St P c L (.builtin .unsafeString [.pointer (some ⟨b, 0, none⟩), .int .i64 (n : Nat)] [t, t2]) (fun q => Vc (l ≠ [] ∧ n ≤ 140737488355328 ∧ l.length = n) (q (str l) R)) :=
  ⟨fun r E d op ty pos af g hs q hq => by
    cases hs with | builtin e' =>
    rename_i xs
    match xs, e' with
    | [x, y], ⟨e1, e2, _⟩ =>
      refine N.value (fun _ => by simp) fun w hw => ?_
      have hw1 := hw.perm (Del.perm hm.h)
      obtain ⟨f1, f2, hd, k1, k2, ha, hl⟩ := hw1.2.2.2
      rcases ha with ⟨h1, _⟩ | ⟨b', k', rest, h1, h2, h3, fr, hfr, h4⟩
      · cases h1
      · cases h1
        have hb : w.heap[b]? = some (.cells (l.map byteV ++ rest).toArray e fr) := k1 _ _ h4
        have hln := hq.l.2.2
        refine ⟨str l, R, w.freeze ⟨b, 0, none⟩ l.length, ?_, hq.r, ?_⟩
        · have h5 := Lib.run_unsafeString_row (P := P) (w := w) t t2 ty e ht.h hz.h b (l.length + rest.length) (by simp [World.shape?, hb]) l hq.l.1 (by omega) (by have := hq.l.2.1; omega) (by
            intro j x hx
            have hj : j < l.length := by
              rcases Nat.lt_or_ge j l.length with h | h
              · exact h
              · rw [List.getElem?_eq_none h] at hx; cases hx
            have : (l.map byteV ++ rest)[j]? = some (.int .u8 x.toNat) := by
              rw [List.getElem?_append_left (by simpa using hj), List.getElem?_map, hx]; rfl
            have e0 : (⟨b, 0, none⟩ : Addr).add j = ⟨b, j, none⟩ := by simp [Addr.add_lit]
            rw [e0]
            simp [World.cell?, hb, this])
          have hn : n = l.length := hln.symm
          subst hn
          simp [execOp, resolve, invoke, builtin, e1, e2, h5, Result.andThen, str]
        · refine ⟨(show (w.freeze ⟨b, 0, none⟩ l.length).os = w.os by unfold World.freeze; split <;> rfl).trans hw1.1, (show (w.freeze ⟨b, 0, none⟩ l.length).tape = w.tape by unfold World.freeze; split <;> rfl).trans hw1.2.1, (show (w.freeze ⟨b, 0, none⟩ l.length).output = w.output by unfold World.freeze; split <;> rfl).trans hw1.2.2.1, ?_⟩
          have h6 : SLh R f2 := hl
          refine SLh.mono ?_ h6
          intro k o hk
          have h7 := k2 k o hk
          have hne : k ≠ b := by
            intro e; subst e
            rcases hd k with h | h
            · rw [h4] at h; cases h
            · rw [hk] at h; cases h
          show (w.freeze ⟨b, 0, none⟩ l.length).heap[k]? = some o
          have hk' : ¬ b = k := fun e => hne e.symm
          unfold World.freeze
          split
          · exact h7
          · simp only [Array.getElem?_modify, hk', if_false]; exact h7⟩
end
end Pw


namespace Pw
open Go
/-! Reads that are held (LkA, LkB) for elements of slices and for inputs; guarded reads. -/
section
variable {L R K : List Assn}
instance {t e : TypeId} {a : Option Addr} {o n k sz : Nat} {xs : List Value} [h : ElAt L a e sz n k xs R] : LkA (.load t (.pointer (eA a o))) L (sl e sz (.slice a n k) n xs) R := ⟨h.h⟩
instance (priority := 1100) {t e : TypeId} {a : Option Addr} {o n k sz : Nat} {xs : List Value} : LkB (.load t (.pointer (eA a o))) (lk (sl e sz (.slice a n k) n xs) :: K) (sl e sz (.slice a n k) n xs) := ⟨_, .head _ _⟩
class OldDel (L : List Assn) (h : outParam (Array Obj)) (R : outParam (List Assn)) : Prop where h : Del (old h) L R
instance (priority := 1100) {L : List Assn} {h : Array Obj} : OldDel (old h :: L) h L := ⟨.head _ _⟩
instance {A : Assn} {L R : List Assn} {h : Array Obj} [k : OldDel L h R] : OldDel (A :: L) h (A :: R) := ⟨.tail k.h⟩
instance (priority := 100) {t : TypeId} {p : Value} {h : Array Obj} [k : OldDel L h R] : LkA (.load t p) L (old h) R := ⟨k.h⟩
instance (priority := 100) {t : TypeId} {p : Value} {h : Array Obj} : LkB (.load t p) (lk (old h) :: K) (old h) := ⟨_, .head _ _⟩
end
class InpP (a : Option Addr) (sz n k : outParam Nat) : Prop where h : 0 < n → ∃ b o, a = some ⟨b, o, none⟩
theorem inp_at {hp : Array Obj} {a : Option Addr} {sz n k : Nat} {xs : List Value} (hI : Inp hp sz n (.slice a n k) xs) (hn : 0 < n) : ∃ b o, a = some ⟨b, o, none⟩ := by
  obtain ⟨_, _, a', cap, hv, h1 | ⟨b, o, ha, _⟩⟩ := hI
  · omega
  · cases hv; exact ⟨b, o, ha⟩
instance (priority := 1200) {P : Program} {x : Int} {t e : TypeId} {a : Option Addr} {n m i sz sz' n' m' : Nat} {k : IntKind} [ht : Und P t (.slice e)] [hz : Sz P e sz] [hI : InpP a sz' n' m'] [h1 : Nn x i] : Pu P (.indexAddr t (.slice a n m) (.int k x)) (fun q => Vc (n = n' ∧ m = m' ∧ sz' = sz + 1 ∧ i < n) (q (.pointer (eA a (i * sz'))))) :=
  ⟨fun E d op ty pos af g hs q hq => by
    cases hs with | indexAddr e1 e2 =>
    rw [h1.h] at e2
    obtain ⟨⟨rfl, rfl, rfl, hi⟩, hq⟩ := hq
    obtain ⟨b, o, rfl⟩ := hI.h (by omega)
    exact ⟨_, DP.ias e1 e2 ht.h hz.h hi, hq⟩⟩
instance (priority := 1200) {P : Program} {t ft : TypeId} {a : Option Addr} {j k fo n m q sz j' : Nat} {fs : List Field} {nm tg pk : String} {em : Bool} {bo : Nat} [ht : Und P t (.struct fs.toArray)] [hf : GL fs k ⟨nm, ft, fo, em, tg, pk, bo⟩] [hz : Sz P ft m] [hI : InpP a sz n q] [hj : FoA j fo j'] : Pu P (.fieldAddr t (.pointer (eA a j)) k) (fun z => Vc (0 < n) (z (.pointer (eA a j')))) :=
  ⟨fun E d op ty pos af g hs z hq => by
    cases hs with | fieldAddr e1 =>
    obtain ⟨b, o, rfl⟩ := hI.h hq.l
    rw [eA_some] at e1
    refine ⟨_, DP.fa fo e1 ht.h (by have := hf.h; simpa using this) rfl hz.h, ?_⟩
    have e : (eA (some ⟨b, o, none⟩) j') = some ⟨b, (o + j) + fo, none⟩ := by rw [eA_some, ← hj.h, Nat.add_assoc]
    rw [← e]; exact hq.r⟩
namespace LkG
theorem okg_g {ops : Array Oper} {ns : List Nat} {i : Nat} {s : Sci} (listed : Array Bool) (h : okSci ops ns (.g i s) listed = true) : okTake ops listed i = true ∧ ns.contains i = false ∧ ((∀ w : World, True) ∨ ∀ j ∈ ns, listed.getD j true = false → Anc ops i j) ∧ okSci ops ns s (listed.setIfInBounds i true) = true := by
  simp only [okSci, Bool.and_eq_true, Bool.not_eq_true'] at h
  exact ⟨h.1.1, h.1.2, .inl fun _ => trivial, h.2⟩
section
variable {P : Program} {r : Rd} {c : Ctx} {K : List Assn} {ns : List Nat} {ops : Array Oper} {Q : Exit → Env → Rd → World → Prop} {L : List Assn} {nt : Nat} {l : List (Nat × Value)} {gb : Nat → Value} {ds : Nat} {op : Op} {ty : TypeId} {pos : String} {af : Array Edge} {j i : Nat} {want : Bool} {s : Sci} {ro : RO} {W : (Value → Prop) → Prop}
theorem s1y {A : Assn} (ho : ops[i]? = some ⟨some ds, op, ty, pos, af, some (j, want)⟩) (hy : Env.yl ⟨nt, l, gb⟩ ops j = some want) (hr : rsv ⟨nt, l, gb⟩ op = ro) [hA : LkB ro K A] [h : Re P c [A] ro W] (k : W (fun v => US P r c ns ops Q K s L ⟨nt, (ds, v) :: l, gb⟩)) : US P r c ns ops Q K (.g i s) L ⟨nt, l, gb⟩ := by
  obtain ⟨v, hd, hk⟩ := h.go _ (some ds) op ty pos af (some (j, want)) (rsv_ok hr) _ k
  obtain ⟨R, hR⟩ := hA.h
  unfold D at hd
  exact US.takeK ho hR (.inl ⟨by show Region.wanted _ (Go.yielded ops (Env.act ⟨nt, l, gb⟩).tmps) = true; rw [Env.wanted rfl hy]; simp, hd.1, fun w hw => by rw [Env.acd_eval]; exact hd.2 w hw⟩) hk
theorem s0y {A : Assn} {R : List Assn} (ho : ops[i]? = some ⟨some ds, op, ty, pos, af, some (j, want)⟩) (hy : Env.yl ⟨nt, l, gb⟩ ops j = some want) (hr : rsv ⟨nt, l, gb⟩ op = ro) [hA : LkA ro L A R] [hR : ImC R K] [h : Re P c [A] ro W] (k : W (fun v => US P r c ns ops Q (lk A :: K) s (lk A :: R) ⟨nt, (ds, v) :: l, gb⟩)) : US P r c ns ops Q K (.g i s) L ⟨nt, l, gb⟩ := by
  obtain ⟨v, hd, hk⟩ := h.go _ (some ds) op ty pos af (some (j, want)) (rsv_ok hr) _ k
  unfold D at hd
  exact US.takeS ho hA.h hR.h (.inl ⟨by show Region.wanted _ (Go.yielded ops (Env.act ⟨nt, l, gb⟩).tmps) = true; rw [Env.wanted rfl hy]; simp, hd.1, fun w hw => by rw [Env.acd_eval]; exact hd.2 w hw⟩) hk
theorem gn {b : Bool} (ho : ops[i]? = some ⟨some ds, op, ty, pos, af, some (j, want)⟩) (hy : Env.yl ⟨nt, l, gb⟩ ops j = some b) (hb : (b == want) = false) (k : US P r c ns ops Q K s L ⟨nt, (ds, undef) :: l, gb⟩) : US P r c ns ops Q K (.g i s) L ⟨nt, l, gb⟩ :=
  US.take (S0 := fun _ => True) ho rfl (fun listed h => okg_g listed h) (fun _ _ => trivial) (.inr ⟨by show Region.wanted _ (Go.yielded ops (Env.act ⟨nt, l, gb⟩).tmps) = false; rw [Env.wanted rfl hy]; exact hb, rfl⟩) k
theorem gu (ho : ops[i]? = some ⟨some ds, op, ty, pos, af, some (j, want)⟩) (hy : Env.yl ⟨nt, l, gb⟩ ops j = none) (k : US P r c ns ops Q K s L ⟨nt, (ds, undef) :: l, gb⟩) : US P r c ns ops Q K (.g i s) L ⟨nt, l, gb⟩ :=
  US.take (S0 := fun _ => True) ho rfl (fun listed h => okg_g listed h) (fun _ _ => trivial) (.inr ⟨Env.wantedN rfl hy, rfl⟩) k
end
theorem stkg {G G' : Prop} (k : G') (h : G' → G := by
  first
  | exact fun k => LkG.s1y rfl rfl (by conv => lhs; whnf) k
  | exact fun k => LkG.s0y rfl rfl (by conv => lhs; whnf) k
  | exact fun k => LkG.gn rfl rfl rfl k
  | exact fun k => LkG.gu rfl rfl k) : G := h k
end LkG
end Pw


/-! ### The first part of a slice, looked at within the whole -/
namespace Pw
open Go
section
variable {P : Program} {r : Rd} {c : Ctx} {L R : List Assn} {E : Env} {d : Option Tmp} {ty : TypeId} {pos : String} {af : Array Edge} {g : Option (Nat × Bool)}
theorem D.preS {x z : Operand} {a : Option Addr} {n m j s sz : Nat} {t e e' : TypeId} {k' : IntKind} {xs : List Value} (hx : E.eval x = .slice a n m) (hz : E.eval z = .int k' j) (ht : P.underlying t = some (.slice e)) (hs : P.cellsOf e = s + 1) (hm : LMem (sl e' sz (.slice a n m) n xs) L) (hj : j ≤ n) :
    D P c L E ⟨d, .slice t x none (some z) none, ty, pos, af, g⟩ (.slice a j m) := by
  unfold D
  refine ⟨fun _ => by simp, fun w hw => ?_⟩
  obtain ⟨f1, hsl, hf⟩ := SLh.mem hm hw.2.2.2
  rcases hsl with ⟨hv, h0, hx0⟩ | ⟨b, k2, rest, hv, hl, hr, hrow⟩
  · cases hv
    obtain rfl : j = 0 := by omega
    have h1 := run_slice3h (P := P) true 0 0 0 k' (Nat.le_refl 0) w
    rw [Int.ofNat_zero] at h1
    rw [show ((0 : Nat) : Int) = 0 from rfl] at hz
    simp [execOp, hx, hz, Instr.sliceAt, Instr.slice, run_underlying ht, h1, run_sizeOf hs]
  · cases hv
    have := DP.slSh (P := P) (E := E) (d := d) (ty := ty) (pos := pos) (af := af) (g := g) hx hz ht hs (show j ≤ n + k2 by omega)
    unfold DP at this
    exact this.2 w
instance (priority := 800) {a : Option Addr} {n m j s sz : Nat} {y : Int} {t e e' : TypeId} {k' : IntKind} {xs : List Value} [ht : Und P t (.slice e)] [hs : Sz P e s] [hm : SlMem L (.slice a n m) e' sz n xs] [hy : Nn y j] : Re P c L (.slice t (.slice a n m) none (some (.int k' y)) none) (fun q => Vc (j ≤ n) (q (.slice a j m))) :=
  ⟨fun E d op ty pos af g h q hq => by
    cases h with | @slice _ _ lo hi mx _ _ _ _ e1 e2 e3 e4 =>
    cases lo with | some _ => simp at e2 | none =>
    cases hi with | none => simp at e3 | some hi =>
    cases mx with | some _ => simp at e4 | none =>
    simp only [Option.map_some, Option.some.injEq] at e3
    rw [hy.h] at e3
    exact ⟨_, D.preS e1 e3 ht.h hs.h hm.h hq.l, hq.r⟩⟩
/-- A slice that a longer one at the same place holds. -/
class SlPre (L : List Assn) (a : Option Addr) (m : Nat) (e : outParam TypeId) (sz n : outParam Nat) (xs : outParam (List Value)) : Prop where h : LMem (sl e sz (.slice a n m) n xs) L
instance (priority := 1100) {L : List Assn} {a : Option Addr} {m : Nat} {e : TypeId} {sz n : Nat} {xs : List Value} : SlPre (sl e sz (.slice a n m) n xs :: L) a m e sz n xs := ⟨.head _ _⟩
instance {A : Assn} {L : List Assn} {a : Option Addr} {m : Nat} {e : TypeId} {sz n : Nat} {xs : List Value} [h : SlPre L a m e sz n xs] : SlPre (A :: L) a m e sz n xs := ⟨.tail h.h⟩
theorem D.iasPre {x y : Operand} {a : Option Addr} {n n' m i sz : Nat} {t e e' : TypeId} {k : IntKind} {xs : List Value} (hx : E.eval x = .slice a n' m) (hy : E.eval y = .int k i) (ht : P.underlying t = some (.slice e)) (hz : P.cellsOf e = sz + 1) (hm : LMem (sl e' (sz + 1) (.slice a n m) n xs) L) (hi : i < n') (hn : n' ≤ n) :
    D P c L E ⟨d, .indexAddr t x y, ty, pos, af, g⟩ (.pointer (eA a (i * (sz + 1)))) :=
  D.slW hm (fun w hw => by
    rcases hw with ⟨h0, _⟩ | ⟨b, ha, _, _⟩
    · omega
    · subst ha
      exact (by have := DP.ias (E := E) (P := P) (d := d) (ty := ty) (pos := pos) (af := af) (g := g) hx hy ht hz hi; unfold DP at this; exact this.2 w)) (fun _ => by simp)
instance (priority := 840) {x : Int} {t e e' : TypeId} {a : Option Addr} {n n' m i sz sz' : Nat} {k : IntKind} {xs : List Value} [ht : Und P t (.slice e)] [hz : Sz P e sz] [hm : SlPre L a m e' sz' n xs] [h1 : Nn x i] : Re P c L (.indexAddr t (.slice a n' m) (.int k x)) (fun q => Vc (sz' = sz + 1 ∧ i < n' ∧ n' ≤ n) (q (.pointer (eA a (i * sz'))))) :=
  ⟨fun E d op ty pos af g hs q hq => by
    cases hs with | indexAddr e1 e2 =>
    rw [h1.h] at e2
    obtain ⟨⟨rfl, hi, hn⟩, hq⟩ := hq
    exact ⟨_, D.iasPre e1 e2 ht.h hz.h hm.h hi hn, hq⟩⟩
end
end Pw


/-! ### Maps by numbers, values of any kind -/
namespace Pw
open Go MapKept
section
variable {υ : Type}
def mapJ (ev : υ → Value) (b : Nat) (x : IntKind × List (Nat × υ)) : Assn := mapI x.1 b (x.2.map fun q => (q.1, ev q.2))
def atJ (l : List (Nat × υ)) (n : Nat) : Option υ := (l.find? fun q => decide (q.1 = n)).map (·.2)
def delJ (l : List (Nat × υ)) (n : Nat) : List (Nat × υ) := match l.findIdx? (fun q => decide (q.1 = n)) with | some i => l.eraseIdx i | none => l
theorem posI_mapJ (n : Nat) (f : υ → Value) : ∀ l : List (Nat × υ), posI (l.map fun q => (q.1, f q.2)) n = (l.findIdx? fun q => decide (q.1 = n)).bind fun i => (l[i]?).map fun q => (i, f q.2)
  | [] => rfl
  | (a, p) :: l => by
    simp only [List.map_cons, posI, posI_mapJ n f l, List.findIdx?_cons]
    by_cases h : a = n
    · simp [h]
    · simp only [h, decide_false, if_false]
      cases l.findIdx? fun q => decide (q.1 = n) with
      | none => simp
      | some i => simp; rfl
theorem atI_mapJ (ev : υ → Value) (l : List (Nat × υ)) (n : Nat) : atI (l.map fun q => (q.1, ev q.2)) n = (atJ l n).map ev := by
  unfold atI atJ
  rw [posI_mapJ n ev]
  induction l with
  | nil => rfl
  | cons a l ih =>
    rw [List.findIdx?_cons, List.find?_cons]
    by_cases h : a.1 = n
    · simp [h]
    · simp only [h, decide_false, if_false]
      rw [← ih]
      cases l.findIdx? (fun q => decide (q.1 = n)) with
      | none => rfl
      | some i => simp; rfl
theorem find_none_J {l : List (Nat × υ)} {n : Nat} (h : n ∉ l.map (·.1)) : l.findIdx? (fun q => decide (q.1 = n)) = none := by
  rw [List.findIdx?_eq_none_iff]
  intro x hx
  simp only [decide_eq_false_iff_not]
  exact fun e => h (e ▸ List.mem_map_of_mem hx)
theorem putI_mapJ (ev : υ → Value) (l : List (Nat × υ)) (n : Nat) (p : υ) (h : n ∉ l.map (·.1)) : putI (l.map fun q => (q.1, ev q.2)) n (ev p) = (l ++ [(n, p)]).map fun q => (q.1, ev q.2) := by
  unfold putI
  rw [posI_mapJ n ev, find_none_J h]
  simp
theorem delI_mapJ (ev : υ → Value) (l : List (Nat × υ)) (n : Nat) : delI (l.map fun q => (q.1, ev q.2)) n = (delJ l n).map fun q => (q.1, ev q.2) := by
  unfold delI delJ
  rw [posI_mapJ n ev]
  cases h : l.findIdx? fun q => decide (q.1 = n) with
  | none => simp
  | some i =>
    have hi := (List.findIdx?_eq_some_iff_getElem.1 h).1
    simp [hi, eraseIdx_map']
variable {P : Program} {r : Rd} {c : Ctx} {L R : List Assn} {t kt et : TypeId} {k : IntKind} {b : Nat} {l : List (Nat × υ)} {x : Int} {n : Nat}
theorem St.mkMapJ (ev : υ → Value) [ht : Und P t (.map kt et)] [hk : Und P kt (.int k)] : St P c L (.mkMap t) (fun q => ∀ b, q (.map (some b)) (mapJ ev b (k, []) :: L)) :=
  ⟨fun r E d op ty pos af g hs q hq => by cases hs with | mkMap => exact (N.mmk k).imp fun v L' ⟨b, h1, h2⟩ => by rw [h1, h2]; exact hq b⟩
theorem Re.lkJ2 (ev : υ → Value) {z : Value} [ht : Und P t (.map kt et)] [hk : Und P kt (.int k)] [hz : Zr P et z] [hm : Fam (mapJ ev) L b (k, l) R] [hn : Nn x n] : Re P c L (.lookup t (.map (some b)) (.int k x) true) (fun q => Opt (atJ l n) (q (.tuple #[z, .bool false])) (fun p => q (.tuple #[ev p, .bool true]))) :=
  ⟨fun E d op ty pos af g hs q hq => by
    cases hs with | lookup e1 e2 =>
    rw [hn.h] at e2
    refine ⟨_, D.mlk2 e1 e2 ht.h hk.h hz.h (Del.lmem hm.h), ?_⟩
    rw [atI_mapJ]
    rcases hq with ⟨h1, h2⟩ | ⟨p, h1, h2⟩
    · rw [h1]; exact h2
    · rw [h1]; exact h2⟩
theorem Re.lenJ (ev : υ → Value) [ht : Und P t (.map kt et)] [hm : Fam (mapJ ev) L b (k, l) R] : Re P c L (.builtin .len [.map (some b)] [t]) (fun q => q (.int .i64 (l.length : Nat))) :=
  ⟨fun E d op ty pos af g hs q hq => by
    cases hs with | builtin e =>
    rename_i xs
    match xs, e with
    | [x], ⟨e1, _⟩ => exact ⟨_, D.mln e1 ht.h (Del.lmem hm.h), by simpa using hq⟩⟩
theorem St.upJ (ev : υ → Value) {u : Value} {p : υ} [ht : Und P t (.map kt et)] [hk : Und P kt (.int k)] [hm : Fam (mapJ ev) L b (k, l) R] [hn : Nn x n] (hu : ev p = u) : St P c L (.update t (.map (some b)) (.int k x) u) (fun q => Vc (n ∉ l.map (·.1)) (q undef (mapJ ev b (k, l ++ [(n, p)]) :: R))) :=
  ⟨fun r E d op ty pos af g hs q hq => by
    cases hs with | update e1 e2 e3 =>
    rw [hn.h] at e2
    rw [← hu] at e3
    exact (N.mup e1 e2 e3 ht.h hk.h hm.h).imp fun v L' h => by
      have e4 : mapI k b (putI (l.map fun q => (q.1, ev q.2)) n (ev p)) = mapJ ev b (k, l ++ [(n, p)]) := congrArg (mapI k b) (putI_mapJ ev l n p hq.l)
      rw [h.1, h.2]
      dsimp only
      erw [e4]; exact hq.r⟩
theorem St.delJ (ev : υ → Value) {t2 : TypeId} [ht : Und P t (.map kt et)] [hk : Und P kt (.int k)] [hm : Fam (mapJ ev) L b (k, l) R] [hn : Nn x n] : St P c L (.builtin .delete [.map (some b), .int k x] [t, t2]) (fun q => q (.tuple #[]) (mapJ ev b (k, Pw.delJ l n) :: R)) :=
  ⟨fun r E d op ty pos af g hs q hq => by
    cases hs with | builtin e =>
    rename_i xs
    match xs, e with
    | [x1, x2], ⟨e1, e2, _⟩ =>
      rw [hn.h] at e2
      exact (N.mdl e1 e2 ht.h hk.h hm.h).imp fun v L' h => by
        have e4 : mapI k b (delI (l.map fun q => (q.1, ev q.2)) n) = mapJ ev b (k, Pw.delJ l n) := congrArg (mapI k b) (delI_mapJ ev l n)
        rw [h.1, h.2]
        dsimp only
        erw [e4]; exact hq⟩
end
end Pw


/-! ### append of a part of a row -/
namespace Pw
open Go
/-- A part of a row that is appended. -/
class PartV (cs : List Value) (o m sz : Nat) (ys : outParam (List Value)) (C : outParam Prop) : Prop where h : C → (cs.drop o).take (m * sz) = ys ∧ (∀ u ∈ ys, u.oneCell' = true) ∧ o + m * sz ≤ cs.length
theorem flat_takeU {α : Type} {f : α → List Value} {sz : Nat} (hf : ∀ x, (f x).length = sz) : ∀ (l : List α) (m : Nat), (l.flatMap f).take (m * sz) = (l.take m).flatMap f
  | [], m => by simp
  | a :: l, 0 => by simp
  | a :: l, m + 1 => by
    have h1 : (m + 1) * sz = (f a).length + m * sz := by rw [hf a, Nat.succ_mul]; omega
    rw [List.flatMap_cons, h1, List.take_length_add_append, flat_takeU hf l m]; rfl
theorem flat_dropU {α : Type} {f : α → List Value} {sz : Nat} (hf : ∀ x, (f x).length = sz) : ∀ (l : List α) (m : Nat), (l.flatMap f).drop (m * sz) = (l.drop m).flatMap f
  | [], m => by simp
  | a :: l, 0 => by simp
  | a :: l, m + 1 => by
    have h1 : (m + 1) * sz = (f a).length + m * sz := by rw [hf a, Nat.succ_mul]; omega
    rw [List.flatMap_cons, h1, List.drop_length_add_append, flat_dropU hf l m]; rfl
theorem flat_lengthU {α : Type} {f : α → List Value} {sz : Nat} (hf : ∀ x, (f x).length = sz) (l : List α) : (l.flatMap f).length = l.length * sz := by
  induction l with
  | nil => simp
  | cons a l ih => rw [List.flatMap_cons, List.length_append, ih, hf a, List.length_cons, Nat.succ_mul]; omega
theorem part_of {α : Type} {f : α → List Value} {l : List α} {rest : List Value} {j m sz : Nat} (hf : ∀ x, (f x).length = sz) (h1 : ∀ x, OnesL (f x)) (h : j + m ≤ l.length) : ((l.flatMap f ++ rest).drop (j * sz)).take (m * sz) = ((l.drop j).take m).flatMap f ∧ (∀ u ∈ ((l.drop j).take m).flatMap f, u.oneCell' = true) ∧ j * sz + m * sz ≤ (l.flatMap f ++ rest).length := by
  have hl := flat_lengthU hf l
  have hm : (j + m) * sz ≤ l.length * sz := Nat.mul_le_mul_right _ h
  rw [Nat.add_mul] at hm
  refine ⟨?_, fun u hu => ?_, by rw [List.length_append]; omega⟩
  · rw [List.drop_append_of_le_length (by omega), List.take_append_of_le_length (by rw [List.length_drop]; omega), flat_dropU hf, flat_takeU hf]
  · obtain ⟨x, _, hx⟩ := List.mem_flatMap.1 hu; exact (h1 x).h u hx
instance {α : Type} {f : α → List Value} {l : List α} {rest : List Value} {m sz : Nat} [hf : FLen f sz] [h1 : ∀ x, OnesL (f x)] : PartV (l.flatMap f ++ rest) 0 m sz ((l.take m).flatMap f) (m ≤ l.length) := ⟨fun h => by
  have := part_of (f := f) (l := l) (rest := rest) (j := 0) (m := m) hf.h h1 (by omega)
  rw [Nat.zero_mul, List.drop_zero (l := l)] at this; exact this⟩
instance {α : Type} {f : α → List Value} {l : List α} {rest : List Value} {j m sz : Nat} [hf : FLen f sz] [h1 : ∀ x, OnesL (f x)] : PartV (l.flatMap f ++ rest) (j * sz) m sz (((l.drop j).take m).flatMap f) (j + m ≤ l.length) := ⟨fun h => part_of hf.h h1 h⟩
instance {α : Type} {f : α → List Value} {l : List α} {rest : List Value} {cap lo m sz : Nat} [hf : FLen f sz] [h1 : ∀ x, OnesL (f x)] : PartV (l.flatMap f ++ rest) (offS cap lo 0 (lo * sz)) m sz (((l.drop lo).take m).flatMap f) (lo + m ≤ l.length ∧ (lo = cap → m = 0)) := ⟨fun h => by
  by_cases hc : lo = cap
  · have hm := h.2 hc
    subst hm
    simp [offS, hc]
  · have e : offS cap lo 0 (lo * sz) = lo * sz := if_neg (fun e => hc e.symm)
    rw [e]; exact part_of hf.h h1 h.1⟩
instance (priority := 1250) appPart {P : Program} {c : Ctx} {L R : List Assn} {t xt e e' et e2 : TypeId} {a : Option Addr} {b o n k m k' sz sz' by_ : Nat} {xs cs ys zs us : List Value} {z : Value} {C C2 : Prop} [ht : Und P t (.slice e)] [hxt : Und P xt (.slice e2)] [hz : Sz P e sz] [hb : By P e by_] [hzr : Zr P e z] [hcz : Cel z zs] [hlz : Len zs (sz + 1)]
    [hd : SlAt L (.slice a n k) e' sz' n xs R] [hr : RowAt L b et cs] [hp : PartV cs o m (sz + 1) ys C] [ha : AppV xs ys us C2] :
    St P c L (.builtin .append [.slice a n k, .slice (some ⟨b, o, none⟩) m k'] [t, xt]) (fun q => Vc (e' = e ∧ sz' = sz + 1 ∧ (n + m) * (by_ + 1) ≤ 140737488355328 ∧ C ∧ C2) (∀ a2 k2, q (.slice a2 (n + m) k2) (Pw.sl e (sz + 1) (.slice a2 (n + m) k2) (n + m) us :: R))) :=
  ⟨fun r E d op ty pos af g hs q hq => by
    cases hs with | builtin ev =>
    rename_i xs_
    obtain ⟨⟨rfl, rfl, hlim, hC, hC2⟩, hq⟩ := hq
    match xs_, ev with
    | [x, y], ⟨e1, e3, _⟩ =>
      obtain ⟨h1, h2, h3⟩ := hp.h hC
      have hnl : ys.length = m * (sz + 1) := by rw [← h1, List.length_take, List.length_drop]; omega
      refine (N.app e1 e3 ht.h hz.h hb.h hzr.h (cellsL_eq z) (by rw [hcz.h]; exact hlz.h) hd.h (Src.sl hxt.h hnl hr.h (ReadsN.row fun i v hv => ?_)) h2 hlim).imp2 fun v L' w h5 hw => ?_
      · have hi := getS_lt hv
        rw [hnl] at hi
        rw [← h1, List.getElem?_take, if_pos hi, List.getElem?_drop] at hv
        exact hv
      · subst h5
        obtain ⟨a2, k2, rfl⟩ := hw.sl_form
        rw [ha.h hC2]
        exact hq a2 k2⟩
theorem er_list {α : Type} {Y : List α} {i : Nat} : Y.take i ++ (Y.drop (i + 1)).take (Y.length - (i + 1)) = Y.eraseIdx i := by
  rw [List.eraseIdx_eq_take_drop_succ, List.take_of_length_le (l := Y.drop (i + 1)) (by rw [List.length_drop]; omega)]
theorem er_len {α : Type} {Y : List α} {i : Nat} (h : i < Y.length) : 0 + i + (Y.length - (i + 1)) = (Y.eraseIdx i).length := by
  rw [List.length_eraseIdx, if_pos h]; omega
end Pw

