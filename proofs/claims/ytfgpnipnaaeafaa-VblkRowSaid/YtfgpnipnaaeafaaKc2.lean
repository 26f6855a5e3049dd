/- Lemmas for the proofs of this seat: no statement of the seat is claimed here. -/
import Derived.RecoverIn
import Derived.Test.YtfgpnipnaaeafaaKc
set_option linter.all false

namespace Pw
open Go
/-! Panics that go out of a function; deferred calls; recover. -/
section
variable {P : Program} {r : Rd} {c : Ctx} {L : List Assn} {E : Env}
/-- An operation that may panic. -/
def NE (P : Program) (r : Rd) (c : Ctx) (L : List Assn) (E : Env) (o : Oper) (Φ : Value → List Assn → Prop) (Ψ : List PanicEntry → List Assn → Prop) : Prop :=
  ∀ w, SL c L w → ∀ (K : Act → World → Prop) (Q : Exit → Act → World → Prop), (∀ v L' w', Φ v L' → SL c L' w' → K ((E.acd r).put o.dst v) w') → (∀ ch L' w', Ψ ch L' → SL c L' w' → Q (.panic ch) (E.acd r) w') → o.wpIn (Wf r) 0 P (E.acd r) w K Q
class StE (P : Program) (c : Ctx) (L : List Assn) (ro : RO) (W : outParam ((Value → List Assn → Prop) → (List PanicEntry → List Assn → Prop) → Prop)) : Prop where
  go : ∀ (r : Rd) (E : Env) (d : Option Tmp) (op : Op) (ty : TypeId) (pos : String) (af : Array Edge) (g : Option (Nat × Bool)), Rs E op ro → ∀ (k : Value → List Assn → Prop) (j : List PanicEntry → List Assn → Prop), W k j → NE P r c L E ⟨d, op, ty, pos, af, g⟩ k j
class FnE (P : Program) (f : FuncId) (args : List Value) (L : List Assn) (W : outParam ((Value → List Assn → Prop) → (List PanicEntry → List Assn → Prop) → Prop)) : Prop where
  go : ∀ (k : Value → List Assn → Prop) (j : List PanicEntry → List Assn → Prop), W k j → ∃ A R B C, SatE P f args A B C ∧ Pick A L R ∧ (∀ v L', B v L' → k v (L' ++ R)) ∧ ∀ ch L', C ch L' → j ch (L' ++ R)
section
variable {d : Option Tmp} {ty : TypeId} {pos : String} {af : Array Edge} {g : Option (Nat × Bool)}
theorem NE.call {fo : Operand} {xs : List Operand} {ats : Array TypeId} {f : FuncId} {first cap vs : List Value} {A R : List Assn} {B : Value → List Assn → Prop} {C : List PanicEntry → List Assn → Prop}
    (hf : E.eval fo = .func (.func f) first.toArray cap.toArray) (hs : SatE P f (first ++ vs ++ cap) A B C) (hc : ∀ args w, (callFunc f args).run P w = .ok (.enter f args) w) (ha : evL E xs vs) (hp : Pick A L R) :
    NE P r c L E ⟨d, .call ⟨.value fo, xs.toArray, ats⟩, ty, pos, af, g⟩ (fun v L' => ∃ L1, B v L1 ∧ L1 ++ R = L') (fun ch L' => ∃ L1, C ch L1 ∧ L1 ++ R = L') := fun w hw K Q hK hQ => by
  refine ⟨fun _ _ => trivial, ?_⟩
  rw [Oper.semAt_eq _ _ _ (fun _ => by simp), E.acd_eval]
  have hrun : (execOp E.eval ⟨d, .call ⟨.value fo, xs.toArray, ats⟩, ty, pos, af, g⟩).run P w = .ok (.enter f (first ++ vs ++ cap).toArray) w := by
    simp [execOp, resolve, Deferred.ofValue, hf, invoke, evL.map ha, hc]
  rw [hrun]
  refine ⟨fun h => (by cases h), ?_⟩
  refine CallsIn.mono (hs c R w (hw.perm hp.perm)) ?_
  rintro e w' (⟨v, L', rfl, hB, hw'⟩ | ⟨ch, L', rfl, hC, hw'⟩)
  · exact hK v _ w' ⟨L', hB, rfl⟩ hw'
  · exact hQ ch _ w' ⟨L', hC, rfl⟩ hw'
theorem NE.imp {o : Oper} {Φ Φ' : Value → List Assn → Prop} {Ψ Ψ' : List PanicEntry → List Assn → Prop} (h : NE P r c L E o Φ Ψ) (h1 : ∀ v L', Φ v L' → Φ' v L') (h2 : ∀ v L', Ψ v L' → Ψ' v L') : NE P r c L E o Φ' Ψ' := fun w hw K Q hK hQ => h w hw K Q (fun v L' w' hv => hK v L' w' (h1 v L' hv)) (fun v L' w' hv => hQ v L' w' (h2 v L' hv))
end
instance {f : FuncId} {xs ys args as1 as2 : List Value} {W : (Value → List Assn → Prop) → (List PanicEntry → List Assn → Prop) → Prop} [hc : Cal P f] [ha : AppL args ys as1] [hb : AppL xs as1 as2] [h : FnE P f as2 L W] : StE P c L (.call (.func (.func f) xs.toArray ys.toArray) args) W :=
  ⟨fun r E d op ty pos af g hs k j hk => by
    cases hs with | call e1 e2 =>
    obtain ⟨A, R, B, C, h1, h2, h3, h4⟩ := h.go k j hk
    rw [← hb.h, ← ha.h, ← List.append_assoc] at h1
    refine (NE.call e1 h1 hc.h e2 h2).imp (fun v L' hq => ?_) (fun v L' hq => ?_)
    · obtain ⟨L1, h4, h5⟩ := hq; rw [← h5]; exact h3 v L1 h4
    · obtain ⟨L1, h6, h5⟩ := hq; rw [← h5]; exact h4 v L1 h6⟩
section
variable {Q : Exit → Env → Rd → World → Prop} {nt : Nat} {l : List (Nat × Value)} {gb : Nat → Value} {ops : Array Oper} {rest : List Oper} {ds : Nat} {op : Op} {ty : TypeId} {pos : String} {af : Array Edge} {ro : RO} {W : (Value → List Assn → Prop) → (List PanicEntry → List Assn → Prop) → Prop}
theorem TO.e (hr : rsv ⟨nt, l, gb⟩ op = ro) [h : StE P c L ro W] (k : W (fun v L' => TO P r c L' ops Q rest ⟨nt, (ds, v) :: l, gb⟩) (fun ch L' => TQ r c L' Q (.panic ch) ⟨nt, l, gb⟩)) : TO P r c L ops Q (⟨some ds, op, ty, pos, af, none⟩ :: rest) ⟨nt, l, gb⟩ := by
  unfold TO
  intro w hw
  refine wpListIn_plain rfl fun K hK => ?_
  refine h.go r _ _ _ _ _ _ _ (rsv_ok hr) _ _ k w hw K _ (fun v L' w' hΦ hw' => hK _ _ (by rw [Env.acd_put]; unfold TO at hΦ; exact hΦ w' hw')) (fun ch L' w' hΨ hw' => ?_)
  unfold TQ at hΨ
  exact ⟨_, r, rfl, hΨ w' hw'⟩
theorem TO.e0 (hr : rsv ⟨nt, l, gb⟩ op = ro) [h : StE P c L ro W] (k : W (fun _ L' => TO P r c L' ops Q rest ⟨nt, l, gb⟩) (fun ch L' => TQ r c L' Q (.panic ch) ⟨nt, l, gb⟩)) : TO P r c L ops Q (⟨none, op, ty, pos, af, none⟩ :: rest) ⟨nt, l, gb⟩ := by
  unfold TO
  intro w hw
  refine wpListIn_plain rfl fun K hK => ?_
  refine h.go r _ _ _ _ _ _ _ (rsv_ok hr) _ _ k w hw K _ (fun v L' w' hΦ hw' => hK _ _ (by rw [Env.acd_put]; unfold TO at hΦ; exact hΦ w' hw')) (fun ch L' w' hΨ hw' => ?_)
  unfold TQ at hΨ
  exact ⟨_, r, rfl, hΨ w' hw'⟩
/-- A panic with a value that is there. -/
theorem TO.pan {x : Operand} {t : TypeId} {u : Value} (hx : Env.eval ⟨nt, l, gb⟩ x = .iface t u) (k : TQ r c L Q (.panic [{ v := .iface t u, recovered := false }]) ⟨nt, l, gb⟩) : TO P r c L ops Q (⟨none, .panic x, ty, pos, af, none⟩ :: rest) ⟨nt, l, gb⟩ := by
  unfold TO
  intro w hw
  refine wpListIn_plain rfl fun K hK => ?_
  refine ⟨fun _ _ => trivial, ?_⟩
  rw [Oper.semAt_eq _ _ _ (fun _ => by simp), Env.acd_eval]
  have hrun : (execOp (Env.eval ⟨nt, l, gb⟩) ⟨none, .panic x, ty, pos, af, none⟩).run P w = .halt (.panic (.iface t u)) w := by
    simp [execOp, Instr.panic, hx, go_sem]
  rw [hrun]
  unfold TQ at k
  exact ⟨_, r, rfl, k w hw⟩
/-- A call is laid aside. -/
theorem TO.dfr {fo : Operand} {xs : List Operand} {ats : Array TypeId} {fn : Go.Fn} {first cap vs : List Value} (hf : Env.eval ⟨nt, l, gb⟩ fo = .func fn first.toArray cap.toArray) (ha : evL ⟨nt, l, gb⟩ xs vs) (h0 : r.rd = none) (hm : r.dm = [])
    (k : TO P ⟨r.rd, r.dm, { target := .fn fn cap.toArray, args := (first ++ vs).toArray } :: r.dc⟩ c L ops Q rest ⟨nt, l, gb⟩) : TO P r c L ops Q (⟨none, .defer ⟨.value fo, xs.toArray, ats⟩, ty, pos, af, none⟩ :: rest) ⟨nt, l, gb⟩ := by
  unfold TO
  intro w hw
  refine wpListIn_plain rfl fun K hK => ?_
  refine ⟨fun _ _ => trivial, ?_⟩
  rw [show (Wf r).round = none from h0, Oper.semAt_none, Env.acd_eval]
  have hrun : (execOp (Env.eval ⟨nt, l, gb⟩) ⟨none, .defer ⟨.value fo, xs.toArray, ats⟩, ty, pos, af, none⟩).run P w = .ok (.defer { target := .fn fn cap.toArray, args := (first ++ vs).toArray }) w := by
    simp [execOp, resolve, Deferred.ofValue, hf, evL.map ha, go_sem]
  rw [hrun]
  refine hK _ _ ?_
  unfold TO at k
  have e : Act.put { (Env.acd ⟨nt, l, gb⟩ r) with defers := { target := .fn fn cap.toArray, args := (first ++ vs).toArray } :: (Env.acd ⟨nt, l, gb⟩ r).defers } none undef = Env.acd ⟨nt, l, gb⟩ ⟨r.rd, r.dm, { target := .fn fn cap.toArray, args := (first ++ vs).toArray } :: r.dc⟩ := by
    unfold Env.acd Rd.df
    rw [hm]
    rfl
  rw [e]
  exact k w hw
end
end

/-! ## Leaving with calls laid aside -/
section
variable {P : Program} {r : Rd} {c : Ctx} {L : List Assn} {E : Env} {fn : Func} {R : List Assn} {B : Value → List Assn → Prop} {C : List PanicEntry → List Assn → Prop}
def endR (c : Ctx) (R : List Assn) (B : Value → List Assn → Prop) (C : List PanicEntry → List Assn → Prop) : Ending → World → Prop := fun e w' => (∃ v L', e = .returned v ∧ B v L' ∧ SL c (L' ++ R) w') ∨ ∃ ch L', e = .panicked ch ∧ C ch L' ∧ SL c (L' ++ R) w'
/-- With deferred calls; it may panic: not calm. -/
def outQ (P : Program) (fn : Func) (c : Ctx) (R : List Assn) (B : Value → List Assn → Prop) (C : List PanicEntry → List Assn → Prop) : Exit → Env → Rd → World → Prop := fun e E r w => bodyPostM (Wf R0) 0 P fn (endR c R B C) e (E.acd r) w
/-- With deferred calls; no panic within: calm. -/
def outC (P : Program) (fn : Func) (c : Ctx) (R : List Assn) (B : Value → List Assn → Prop) (C : List PanicEntry → List Assn → Prop) : Exit → Env → Rd → World → Prop := fun e E r w => (∀ ch, e ≠ .panic ch) ∧ outQ P fn c R B C e E r w
instance : CalmC (outC P fn c R B C) := ⟨fun ch _ _ _ _ h => absurd rfl (h.1 ch)⟩
theorem SatEC.enterD {f : FuncId} {code : Code} {args : List Value} {A : List Assn} (hf : P.funcs[f]? = some fn) (hb : fn.body = some code) {n : Nat} (hn : fn.ntmps = n) (hle : Nat.ble args.length n = true)
    (h : ∀ R, T P R0 c (A ++ R) code (outQ P fn c R B C) { n := n, l := slots 0 args, g := fun _ => undef }) : SatEC P c f args A B C := fun R w hw => by
  refine callsIn_of_wp_marks hf hb trivial ?_
  rw [env_enter hn hle]
  have h1 := h R
  unfold T at h1
  refine wpIn_mono (h1 w hw) ?_
  rintro ex a w' ⟨E', r', rfl, hq⟩
  exact hq
theorem SatEC.enterC {f : FuncId} {code : Code} {args : List Value} {A : List Assn} (hf : P.funcs[f]? = some fn) (hb : fn.body = some code) {n : Nat} (hn : fn.ntmps = n) (hle : Nat.ble args.length n = true)
    (h : ∀ R, T P R0 c (A ++ R) code (outC P fn c R B C) { n := n, l := slots 0 args, g := fun _ => undef }) : SatEC P c f args A B C := fun R w hw => by
  refine callsIn_of_wp_marks hf hb trivial ?_
  rw [env_enter hn hle]
  have h1 := h R
  unfold T at h1
  refine wpIn_mono (h1 w hw) ?_
  rintro ex a w' ⟨E', r', rfl, hq⟩
  exact hq.2
/-- What is to be shown once all calls have been made. -/
theorem ret_leaves {w : World} (h : retQ P fn c R B C .ret E R0 w) : LeavesInM (Wf R0) 0 P fn E.act.tmps (endR c R B C) [] .returning w := by
  rcases h with ⟨ch, h, _⟩ | ⟨_, _, v, L0, L', h1, h2, h3, h4⟩
  · cases h
  · exact ⟨v, h1 w h4, .inl ⟨v, L', rfl, h2, h3 w h4⟩⟩
theorem pan_leaves {w : World} {ch : List PanicEntry} (h : retQ P fn c R B C (.panic ch) E R0 w) : LeavesInM (Wf R0) 0 P fn E.act.tmps (endR c R B C) [] (.panicking ch) w := by
  rcases h with ⟨ch', h, _, _, L', h1, h2⟩ | ⟨h | h, _⟩
  · cases h; exact .inr ⟨ch, L', rfl, h1, h2⟩
  · cases h
  · cases h
theorem TQ.outR (h : TQ R0 c L (retQ P fn c R B C) .ret E) : TQ R0 c L (outQ P fn c R B C) .ret E := by
  unfold TQ at h ⊢
  exact fun w hw => ret_leaves (h w hw)
theorem TQ.outRC (h : TQ R0 c L (retQ P fn c R B C) .ret E) : TQ R0 c L (outC P fn c R B C) .ret E := by
  unfold TQ at h ⊢
  exact fun w hw => ⟨fun _ h => (by cases h), ret_leaves (h w hw)⟩
/-- A deferred call, in a mode of the frame below. -/
def SatD (P : Program) (c : Ctx) (f : FuncId) (args : List Value) (u : FrameMode) (A : List Assn) (B : FrameMode → List Assn → Prop) : Prop :=
  ∀ (R : List Assn) (w : World), SL c (A ++ R) w → CallsDIn (Wf R0) 0 P f args.toArray u w fun e u' w' => (∃ v, e = .returned v) ∧ ∃ L', B u' L' ∧ SL c (L' ++ R) w'
theorem leaves_one {tmps : Array Value} {Rp : Ending → World → Prop} {f : FuncId} {cap ags : List Value} {u : FrameMode} {A L1 : List Assn} {B' : FrameMode → List Assn → Prop} (hu : u ≠ .run) (hc : ∀ args w, (callFunc f args).run P w = .ok (.enter f args) w)
    (hs : SatD P c f (ags ++ cap) u A B') (hp : Pick A L L1) (k : ∀ u' L', B' u' L' → ∀ w, SL c (L' ++ L1) w → LeavesInM (Wf R0) 0 P fn tmps Rp [] (settle u') w) {w : World} (hw : SL c L w) : LeavesInM (Wf R0) 0 P fn tmps Rp [{ target := .fn (.func f) cap.toArray, args := ags.toArray }] u w := by
  refine ⟨hu, .inr ⟨fun h => (by cases h), .func f, cap.toArray, f, (ags ++ cap).toArray, rfl, ?_, fun _ _ => trivial, ?_⟩⟩
  · simp [invoke, hc]
  · refine CallsDIn.mono (hs L1 w (hw.perm hp.perm)) ?_
    rintro e u' w' ⟨⟨v, rfl⟩, L', hB, hw'⟩
    exact k u' L' hB w' hw'
/-- Its one deferred call at a plain end. -/
theorem TQ.outD {f : FuncId} {cap ags : List Value} {A L1 : List Assn} {B' : FrameMode → List Assn → Prop} (hc : ∀ args w, (callFunc f args).run P w = .ok (.enter f args) w) (hs : SatD P c f (ags ++ cap) .returning A B') (hp : Pick A L L1)
    (k : ∀ u' L', B' u' L' → settle u' = .returning ∧ TQ R0 c (L' ++ L1) (retQ P fn c R B C) .ret E) : TQ ⟨none, [], [{ target := .fn (.func f) cap.toArray, args := ags.toArray }]⟩ c L (outQ P fn c R B C) .ret E := by
  unfold TQ
  intro w hw
  refine leaves_one (fn := fn) (by simp) hc hs hp (fun u' L' hB w' hw' => ?_) hw
  obtain ⟨h1, h2⟩ := k u' L' hB
  rw [h1]
  unfold TQ at h2
  exact ret_leaves (h2 w' hw')
theorem TQ.outDC {f : FuncId} {cap ags : List Value} {A L1 : List Assn} {B' : FrameMode → List Assn → Prop} (hc : ∀ args w, (callFunc f args).run P w = .ok (.enter f args) w) (hs : SatD P c f (ags ++ cap) .returning A B') (hp : Pick A L L1)
    (k : ∀ u' L', B' u' L' → settle u' = .returning ∧ TQ R0 c (L' ++ L1) (retQ P fn c R B C) .ret E) : TQ ⟨none, [], [{ target := .fn (.func f) cap.toArray, args := ags.toArray }]⟩ c L (outC P fn c R B C) .ret E := by
  have h := TQ.outD hc hs hp k
  unfold TQ at h ⊢
  exact fun w hw => ⟨fun _ h => (by cases h), h w hw⟩
/-- .. at a panic. -/
theorem TQ.outP {f : FuncId} {cap ags : List Value} {A L1 : List Assn} {B' : FrameMode → List Assn → Prop} {ch : List PanicEntry} (hc : ∀ args w, (callFunc f args).run P w = .ok (.enter f args) w) (hs : SatD P c f (ags ++ cap) (.panicking ch) A B') (hp : Pick A L L1)
    (k : ∀ u' L', B' u' L' → settle u' = .returning ∧ TQ R0 c (L' ++ L1) (retQ P fn c R B C) .ret E) : TQ ⟨none, [], [{ target := .fn (.func f) cap.toArray, args := ags.toArray }]⟩ c L (outQ P fn c R B C) (.panic ch) E := by
  unfold TQ
  intro w hw
  refine leaves_one (fn := fn) (by simp) hc hs hp (fun u' L' hB w' hw' => ?_) hw
  obtain ⟨h1, h2⟩ := k u' L' hB
  rw [h1]
  unfold TQ at h2
  exact ret_leaves (h2 w' hw')
/-- The post of a function that is called so: no marks. -/
def retD (P : Program) (fn : Func) (c : Ctx) (R : List Assn) (B : Value → List Assn → Prop) : Exit → Env → Rd → World → Prop := fun e E r w => r = R0 ∧ retQ P fn c R B noC e E r w
theorem Calm.retD : Calm (retD P fn c R B) := fun ch E E' r w h => ⟨h.1, Calm.rt ch E E' r w h.2⟩
instance : CalmC (retD P fn c R B) := ⟨Calm.retD⟩
theorem TQ.toD {e : Exit} (h : TQ R0 c L (retQ P fn c R B noC) e E) : TQ R0 c L (retD P fn c R B) e E := by
  unfold TQ at h ⊢
  exact fun w hw => ⟨rfl, h w hw⟩
theorem SatD.enter {f : FuncId} {code : Code} {args : List Value} {A : List Assn} {u : FrameMode} {B' : FrameMode → List Assn → Prop} (hf : P.funcs[f]? = some fn) (hb : fn.body = some code) {n : Nat} (hn : fn.ntmps = n) (hle : Nat.ble args.length n = true)
    (h : ∀ R, T P R0 c (A ++ R) code (retD P fn c R (fun _ L' => B' u L')) { n := n, l := slots 0 args, g := fun _ => undef }) : SatD P c f args u A B' := fun R w hw => by
  refine (callsDIn_of_wp (R := fun e w' => (∃ v, e = .returned v) ∧ ∃ L', B' u L' ∧ SL c (L' ++ R) w') hf hb trivial ?_).mono (fun e u' w' h => by rw [h.1]; exact h.2)
  rw [env_enter hn hle]
  have h1 := h R
  unfold T at h1
  refine wpIn_mono (h1 w hw) ?_
  rintro ex a w' ⟨E', r', rfl, rfl, ⟨ch, rfl, _, _, L', hC, _⟩ | ⟨hex, hdc, v, L0, L', h1, h2, h3, h4⟩⟩
  · exact hC.elim
  · rcases hex with rfl | rfl
    · exact ⟨rfl, v, h1 w' h4, ⟨v, rfl⟩, L', h2, h3 w' h4⟩
    · exact ⟨rfl, v, h1 w' h4, ⟨v, rfl⟩, L', h2, h3 w' h4⟩
/-- What recover hands back in a mode, and the mode then. -/
def recM : FrameMode → Value × FrameMode
  | .panicking ({ v, recovered := false, goexit := false } :: older) => (v, .panicking ({ v, recovered := true } :: older))
  | u => (.nilIface, u)
theorem recD_eq (c₀ : Frame) (cs : List Frame) : (recoverD (c₀ :: cs) = some ((recM c₀.mode).1, { c₀ with mode := (recM c₀.mode).2 } :: cs)) ∨ (recoverD (c₀ :: cs) = none ∧ recM c₀.mode = (.nilIface, c₀.mode)) := by
  obtain ⟨fn, tmps, todo, defers, mode, kind, ro⟩ := c₀
  match mode with
  | .run => exact .inr ⟨rfl, rfl⟩
  | .returning => exact .inr ⟨rfl, rfl⟩
  | .panicking [] => exact .inr ⟨rfl, rfl⟩
  | .panicking (⟨v, false, false⟩ :: older) => exact .inl rfl
  | .panicking (⟨v, true, _⟩ :: older) => exact .inr ⟨rfl, rfl⟩
  | .panicking (⟨v, false, true⟩ :: older) => exact .inr ⟨rfl, rfl⟩
theorem SatD.enterR {f : FuncId} {id : Nat} {d1 d2 : Nat} {ty1 ty2 : TypeId} {p1 p2 : String} {a1 a2 : Array Edge} {x1 : Array TypeId} {rest : Code} {args : List Value} {A : List Assn} {u : FrameMode} {B' : FrameMode → List Assn → Prop} (hf : P.funcs[f]? = some fn)
    (hb : fn.body = some (.seq (.region id [⟨some d1, .call ⟨.builtin .recover, #[], x1⟩, ty1, p1, a1, none⟩, ⟨some d2, .assign (.tmp d1), ty2, p2, a2, none⟩].toArray false) rest)) {n : Nat} (hn : fn.ntmps = n) (hle : Nat.ble args.length n = true) (hd1 : d1 < n)
    (h : ∀ R, T P R0 c (A ++ R) rest (retD P fn c R (fun _ L' => B' (recM u).2 L')) ⟨n, (d2, (recM u).1) :: (d1, (recM u).1) :: slots 0 args, fun _ => undef⟩) : SatD P c f args u A B' := fun R w hw => by
  refine callsDIn_of_wpSIn hf hb trivial (fun c₀ cs hu => ?_)
  rw [env_enter hn hle]
  have key : ∀ cs', cs' = { c₀ with mode := (recM u).2 } :: cs → rest.wpSIn (Wf R0) 0 P (bodyPostS P fn c₀ cs fun e u' w' => (∃ v, e = .returned v) ∧ ∃ L', B' u' L' ∧ SL c (L' ++ R) w') (Env.act ⟨n, (d2, (recM u).1) :: (d1, (recM u).1) :: slots 0 args, fun _ => undef⟩) cs' w := by
    intro cs' hcs
    refine wpSIn_of_wpIn rfl ?_
    have h1 := h R
    unfold T at h1
    refine wpIn_mono (h1 w hw) ?_
    rintro ex a w' ⟨E', r', rfl, rfl, ⟨ch, rfl, _, _, L', hC, _⟩ | ⟨hex, hdc, v, L0, L', h1, h2, h3, h4⟩⟩
    · exact hC.elim
    · rcases hex with rfl | rfl
      · exact ⟨rfl, _, hcs, v, h1 w' h4, ⟨v, rfl⟩, L', h2, h3 w' h4⟩
      · exact ⟨rfl, _, hcs, v, h1 w' h4, ⟨v, rfl⟩, L', h2, h3 w' h4⟩
  have e1 : ∀ (a : Act), (execOp a.eval ⟨some d1, .call ⟨.builtin .recover, #[], x1⟩, ty1, p1, a1, none⟩).run P w = .ok .recover w := fun a => by simp [execOp, resolve, invoke, go_sem]
  have e2 : ∀ (a : Act), (execOp a.eval ⟨some d2, .assign (.tmp d1), ty2, p2, a2, none⟩).run P w = .ok (.value (a.eval (.tmp d1))) w := fun a => by simp [execOp, go_sem]
  have e3 : ∀ v : Value, ((Env.act ⟨n, slots 0 args, fun _ => undef⟩).put (some d1) v).put (some d2) (((Env.act ⟨n, slots 0 args, fun _ => undef⟩).put (some d1) v).eval (.tmp d1)) = Env.act ⟨n, (d2, v) :: (d1, v) :: slots 0 args, fun _ => undef⟩ := fun v => by
    rw [Env.act_put, Env.act_eval, Env.act_put]
    have : Env.eval (Env.puto ⟨n, slots 0 args, fun _ => undef⟩ (some d1) v) (.tmp d1) = v := by
      show Env.get ⟨n, (d1, v) :: slots 0 args, fun _ => undef⟩ d1 = v
      unfold Env.get
      have hb : Nat.ble n d1 = false := by
        cases hh : Nat.ble n d1 with
        | false => rfl
        | true => exact absurd (Nat.le_of_ble_eq_true hh) (by omega)
      have hr : Nat.beq d1 d1 = true := Nat.beq_refl d1
      simp [hb, look, hr]
    rw [this]
    rfl
  refine wpSIn_seq (wpSIn_region ?_)
  show wpOpsSIn _ _ _ _ _ [0, 1] _ _ _
  rcases recD_eq c₀ cs with hr | ⟨hr, hm⟩
  · rw [hu] at hr
    have hk := key _ rfl
    rw [← e3] at hk
    simp only [wpOpsSIn, List.getElem?_toArray, List.getElem?_cons_zero, List.getElem?_cons_succ, Region.wanted, if_true]
    refine ⟨fun _ _ => trivial, ?_⟩
    rw [e1]
    simp only [hr]
    refine ⟨fun _ _ => trivial, ?_⟩
    rw [e2]
    exact hk
  · rw [hu] at hm
    have hk := key (c₀ :: cs) (by rw [hm, ← hu])
    rw [hm, ← e3] at hk
    simp only [wpOpsSIn, List.getElem?_toArray, List.getElem?_cons_zero, List.getElem?_cons_succ, Region.wanted, if_true]
    refine ⟨fun _ _ => trivial, ?_⟩
    rw [e1]
    simp only [hr]
    refine ⟨fun _ _ => trivial, ?_⟩
    rw [e2]
    exact hk
/-- .. as the last one of a region of open order. -/
theorem UN.df {ns : List Nat} {ops : Array Oper} {K : List Assn} {Q : Exit → Env → Rd → World → Prop} {i nt : Nat} {l : List (Nat × Value)} {gb : Nat → Value} {ty : TypeId} {pos : String} {af : Array Edge} {fo : Operand} {xs : List Operand} {ats : Array TypeId} {fn : Go.Fn} {first cap vs : List Value}
    (ho : ops[i]? = some ⟨none, .defer ⟨.value fo, xs.toArray, ats⟩, ty, pos, af, none⟩) (hns : ns.contains i = true) (hf : Env.eval ⟨nt, l, gb⟩ fo = .func fn first.toArray cap.toArray) (ha : evL ⟨nt, l, gb⟩ xs vs) (h0 : r.rd = none) (hm : r.dm = [])
    (k : TQ ⟨r.rd, r.dm, { target := .fn fn cap.toArray, args := (first ++ vs).toArray } :: r.dc⟩ c L Q .normal ⟨nt, l, gb⟩) : UN P r c ns ops Q K i .fin L ⟨nt, l, gb⟩ := by
  unfold UN
  intro listed hq hcl hok w hw hK
  unfold wpOpIn
  simp only [ho]
  rw [if_pos (wanted_none rfl)]
  refine ⟨fun _ _ => trivial, ?_⟩
  rw [show (Wf r).round = none from h0, Oper.semAt_none, Env.acd_eval]
  have hrun : (execOp (Env.eval ⟨nt, l, gb⟩) ⟨none, .defer ⟨.value fo, xs.toArray, ats⟩, ty, pos, af, none⟩).run P w = .ok (.defer { target := .fn fn cap.toArray, args := (first ++ vs).toArray }) w := by
    simp [execOp, resolve, Deferred.ofValue, hf, evL.map ha, go_sem]
  rw [hrun]
  refine ⟨fun h => absurd (hns.symm.trans h) (by simp), hK, by simpa [okSci] using hok, ⟨nt, l, gb⟩, ⟨r.rd, r.dm, { target := .fn fn cap.toArray, args := (first ++ vs).toArray } :: r.dc⟩, ?_, ?_⟩
  · unfold Env.acd Rd.df
    rw [hm]
    rfl
  · unfold TQ at k
    exact k w hw
theorem SatD.openA1 {f : FuncId} {args : List Value} {u : FrameMode} {B' : FrameMode → List Assn → Prop} {α : Type} {p : α → Prop} {Ls : α → List Assn} (k : ∀ a, p a → SatD P c f args u (Ls a) B') : SatD P c f args u [exA p Ls] B' := fun R w hw => by
  obtain ⟨a, hp, ha⟩ := SL.openA (R := R) hw
  exact k a hp R w (by simpa using ha)
theorem SatD.post {f : FuncId} {args : List Value} {u : FrameMode} {A : List Assn} {B B' : FrameMode → List Assn → Prop} (h : SatD P c f args u A B) (hB : ∀ v L', B v L' → ∃ L'', Imp L' L'' ∧ B' v L'') : SatD P c f args u A B' := fun R w hw => by
  refine CallsDIn.mono (h R w hw) ?_
  rintro e u' w' ⟨he, L', hb, hw'⟩
  obtain ⟨L'', hi, hb'⟩ := hB u' L' hb
  exact ⟨he, L'', hb', SL.imp_left hi hw'⟩
/-- .. with a frame. -/
theorem SatD.frame {f : FuncId} {args : List Value} {u : FrameMode} {A F : List Assn} {B : FrameMode → List Assn → Prop} (h : SatD P c f args u A B) : SatD P c f args u (A ++ F) (fun v L' => ∃ L1, B v L1 ∧ L' = L1 ++ F) := fun R w hw => by
  refine CallsDIn.mono (h (F ++ R) w (by simpa using hw)) ?_
  rintro e u' w' ⟨he, L', hb, hw'⟩
  exact ⟨he, _, ⟨L', hb, rfl⟩, by simpa using hw'⟩
/-- A cut behind a region that lays a call aside. -/
def cutD (r2 : Rd) (c : Ctx) (n : Nat) (sl : List (Nat × Value)) (H : List Assn) (Q : Exit → Env → Rd → World → Prop) : Exit → Env → Rd → World → Prop
  | .normal, E, r', w => r' = r2 ∧ E.n = n ∧ E.has sl ∧ SL c H w
  | .exit i, E, r', w => Q (.exit i) E r' w
  | .goto i, E, r', w => Q (.goto i) E r' w
  | .ret, E, r', w => Q .ret E r' w
  | .panic ch, E, r', w => Q (.panic ch) E r' w
  | .outgrown, E, r', w => Q .outgrown E r' w
instance {r2 : Rd} {n : Nat} {sl : List (Nat × Value)} {H : List Assn} {Q : Exit → Env → Rd → World → Prop} [h : CalmC Q] : CalmC (cutD r2 c n sl H Q) := ⟨h.h⟩
theorem T.cutD (id : Nat) {n : Nat} {l0 : List (Nat × Value)} {g0 : Nat → Value} {ops : Array Oper} {dr : Bool} {y : Code} {Q : Exit → Env → Rd → World → Prop} (r2 : Rd) (sl : List (Nat × Value)) (H : List Assn) (hr : r2.rd = r.rd)
    (h : T P r c L (.region id ops dr) (Pw.cutD r2 c n sl H Q) ⟨n, l0, g0⟩) (k : ∀ g, T P r2 c H y Q ⟨n, sl, g⟩) : T P r c L (.seq (.region id ops dr) y) Q ⟨n, l0, g0⟩ := by
  refine T.seq ?_
  unfold T at h ⊢
  intro w hw
  refine wpIn_mono (h w hw) ?_
  rintro e a w' ⟨E', r', rfl, hq⟩
  cases e with
  | normal =>
    obtain ⟨rfl, en, hh, hw'⟩ := hq
    refine ⟨_, _, Env.acd_congr (E'.act_has sl hh) _, ?_⟩
    rw [en]
    have h2 := k E'.get
    unfold T at h2
    have e : Wf r = Wf r' := by unfold Wf; rw [hr]
    show y.wpIn (Wf r) 0 P (lift Q) _ w'
    rw [e]
    exact h2 w' hw'
  | _ => exact ⟨E', r', rfl, hq⟩
theorem TQ.cd {r2 : Rd} {n : Nat} {sl : List (Nat × Value)} {H : List Assn} {Q : Exit → Env → Rd → World → Prop} (hn : E.n = n) (hsl : E.has sl) (hL : Ent c L H) : TQ r2 c L (Pw.cutD r2 c n sl H Q) .normal E := by
  unfold TQ
  exact fun w hw => ⟨rfl, hn, hsl, hL w hw⟩
theorem TQ.atOC (h : TQ r c L (outC P fn c R B C) .ret E) : TQ r c L (outC P fn c R B C) .ret E := h
theorem TQ.atOQ {e : Exit} (h : TQ r c L (outQ P fn c R B C) e E) : TQ r c L (outQ P fn c R B C) e E := h
theorem TQ.atCD {r2 : Rd} {n : Nat} {sl : List (Nat × Value)} {H : List Assn} {Q : Exit → Env → Rd → World → Prop} (h : TQ r c L (Pw.cutD r2 c n sl H Q) .normal E) : TQ r c L (Pw.cutD r2 c n sl H Q) .normal E := h
theorem TQ.atRQ {e : Exit} (h : TQ r c L (retQ P fn c R B C) e E) : TQ r c L (retQ P fn c R B C) e E := h
section
variable {Q : Exit → Env → Rd → World → Prop} {ch : List PanicEntry}
theorem TQ.pt {y : Code} (h : TQ r c L Q (.panic ch) E) : TQ r c L (thenQ P r y Q) (.panic ch) E := by unfold TQ at h ⊢; exact h
theorem TQ.pb {id : Nat} (h : TQ r c L Q (.panic ch) E) : TQ r c L (blockQ id Q) (.panic ch) E := by unfold TQ at h ⊢; exact h
theorem TQ.pl {S : Type} {n : Nat} {sl : S → List (Nat × Value)} {H : S → List Assn} {I : S → Prop} {μ : S → Nat} {s : S} (h : TQ r c L Q (.panic ch) E) : TQ r c L (loopQ r c n sl H I μ s Q) (.panic ch) E := by unfold TQ at h ⊢; exact h
theorem TQ.pc {S : Type} {n : Nat} {sl : S → List (Nat × Value)} {H : S → List Assn} {I : S → Prop} (h : TQ r c L Q (.panic ch) E) : TQ r c L (cutQ r c n sl H I Q) (.panic ch) E := by unfold TQ at h ⊢; exact h
instance {y : Code} : Go1 (TQ r c L (thenQ P r y Q) (.panic ch) E) (TQ r c L Q (.panic ch) E) := ⟨TQ.pt⟩
instance {id : Nat} : Go1 (TQ r c L (blockQ id Q) (.panic ch) E) (TQ r c L Q (.panic ch) E) := ⟨TQ.pb⟩
instance {S : Type} {n : Nat} {sl : S → List (Nat × Value)} {H : S → List Assn} {I : S → Prop} {μ : S → Nat} {s : S} : Go1 (TQ r c L (loopQ r c n sl H I μ s Q) (.panic ch) E) (TQ r c L Q (.panic ch) E) := ⟨TQ.pl⟩
instance {S : Type} {n : Nat} {sl : S → List (Nat × Value)} {H : S → List Assn} {I : S → Prop} : Go1 (TQ r c L (cutQ r c n sl H I Q) (.panic ch) E) (TQ r c L Q (.panic ch) E) := ⟨TQ.pc⟩
/-- A panic goes out of the function. -/
theorem TQ.panO {L' : List Assn} (h : C ch L') (hL : Ent c L (L' ++ R)) : TQ R0 c L (retQ P fn c R B C) (.panic ch) E := by
  unfold TQ
  exact fun w hw => .inl ⟨ch, rfl, rfl, rfl, L', h, hL w hw⟩
theorem TQ.atPO (h : TQ R0 c L (retQ P fn c R B C) (.panic ch) E) : TQ R0 c L (retQ P fn c R B C) (.panic ch) E := h
end
theorem DP.mki {d : Option Tmp} {ty : TypeId} {pos : String} {af : Array Edge} {g : Option (Nat × Bool)} {t : TypeId} {x : Operand} {v : Value} {fs : Array Field} (hx : E.eval x = v) (ht : Und P t (.struct fs)) : DP P E ⟨d, .makeInterface t x, ty, pos, af, g⟩ (.iface t v) :=
  DP.mk (fun _ => by simp) fun w => by simp [execOp, Instr.makeInterface, hx, run_underlying ht.h, go_sem]
theorem TO.mki {Q : Exit → Env → Rd → World → Prop} {nt : Nat} {l : List (Nat × Value)} {gb : Nat → Value} {ops : Array Oper} {rest : List Oper} {ds : Nat} {ty : TypeId} {pos : String} {af : Array Edge} {t : TypeId} {x : Operand} {v : Value} {fs : Array Field} (hx : Env.eval ⟨nt, l, gb⟩ x = v) (ht : Und P t (.struct fs))
    (k : TO P r c L ops Q rest ⟨nt, (ds, .iface t v) :: l, gb⟩) : TO P r c L ops Q (⟨some ds, .makeInterface t x, ty, pos, af, none⟩ :: rest) ⟨nt, l, gb⟩ := TO.p (DP.mki hx ht) k
theorem TQ.finCC {t1 t2 b1 b2 : Nat} {ty1 ty2 e1 e2 : TypeId} {u1 u2 : Value} [hp1 : Pl P ty1] [hp2 : Pl P ty2] [hr1 : RowAt L b1 e1 [u1]] [hr2 : RowAt L b2 e2 [u2]]
    (h : Fini c L R B (asResult [u1, u2])) (hr : fn.results = #[.cell t1 ty1, .cell t2 ty2] := by rfl) (h1 : E.get t1 = .pointer (some ⟨b1, 0, none⟩) := by rfl) (h2 : E.get t2 = .pointer (some ⟨b2, 0, none⟩) := by rfl) : TQ R0 c L (retQ P fn c R B C) .ret E := by
  unfold Fini at h
  obtain ⟨L', h3, h4⟩ := h
  exact TQ.ret (vs := [u1, u2]) hr ⟨RV.at h1 hp1.h hr1.h rfl, RV.at h2 hp2.h hr2.h rfl, rfl⟩ h3 h4
end
end Pw


namespace Pw
open Go
section
variable {P : Program} {r : Rd} {c : Ctx} {L : List Assn} {E : Env}
section
variable {d : Option Tmp} {ty : TypeId} {pos : String} {af : Array Edge} {g : Option (Nat × Bool)}
theorem DP.nif {x : Operand} {t t' : TypeId} {ms : Array (String × TypeId)} (hx : E.eval x = .nilIface) (ht : Und P t (.interface ms)) : DP P E ⟨d, .binOp .neq t x (.const .nilIface) t', ty, pos, af, g⟩ (.bool false) := by
  unfold DP
  refine ⟨fun _ => by simp, fun w => ?_⟩
  have h : ∀ n, (Op.equalIn (n + 1) t .nilIface .nilIface).run P w = .ok true w := fun n => by simp [Op.equalIn, run_underlying ht.h]
  have hy : E.eval (.const .nilIface) = .nilIface := rfl
  have hg : eqGuard .neq t x (.const .nilIface) .nilIface .nilIface = pure () := by simp [eqGuard]
  simp only [execOp, hx, hy, hg, binOp, Sem.run_bind, Sem.run_pure, Result.andThen_ok]
  rw [show Op.equal t .nilIface .nilIface = Op.equalIn (9999 + 1) t .nilIface .nilIface from rfl, h]
  rfl
theorem DP.niv {x : Operand} {t t' t2 : TypeId} {v : Value} {ms : Array (String × TypeId)} (hx : E.eval x = .iface t2 v) (ht : Und P t (.interface ms)) : DP P E ⟨d, .binOp .neq t x (.const .nilIface) t', ty, pos, af, g⟩ (.bool true) := by
  unfold DP
  refine ⟨fun _ => by simp, fun w => ?_⟩
  have h : ∀ n, (Op.equalIn (n + 1) t (.iface t2 v) .nilIface).run P w = .ok false w := fun n => by simp [Op.equalIn, run_underlying ht.h]
  have hy : E.eval (.const .nilIface) = .nilIface := rfl
  have hg : eqGuard .neq t x (.const .nilIface) (.iface t2 v) .nilIface = pure () := by simp [eqGuard]
  simp only [execOp, hx, hy, hg, binOp, Sem.run_bind, Sem.run_pure, Result.andThen_ok]
  rw [show Op.equal t (.iface t2 v) .nilIface = Op.equalIn (9999 + 1) t (.iface t2 v) .nilIface from rfl, h]
  rfl
end
theorem TO.nif {Q : Exit → Env → Rd → World → Prop} {nt : Nat} {l : List (Nat × Value)} {gb : Nat → Value} {ops : Array Oper} {rest : List Oper} {ds : Nat} {t t' ty : TypeId} {pos : String} {af : Array Edge} {x : Operand} {ms : Array (String × TypeId)} (hx : Env.eval ⟨nt, l, gb⟩ x = .nilIface) (ht : Und P t (.interface ms))
    (k : TO P r c L ops Q rest ⟨nt, (ds, .bool false) :: l, gb⟩) : TO P r c L ops Q (⟨some ds, .binOp .neq t x (.const .nilIface) t', ty, pos, af, none⟩ :: rest) ⟨nt, l, gb⟩ := TO.p (DP.nif hx ht) k
theorem TO.niv {Q : Exit → Env → Rd → World → Prop} {nt : Nat} {l : List (Nat × Value)} {gb : Nat → Value} {ops : Array Oper} {rest : List Oper} {ds : Nat} {t t' ty t2 : TypeId} {pos : String} {af : Array Edge} {x : Operand} {v : Value} {ms : Array (String × TypeId)} (hx : Env.eval ⟨nt, l, gb⟩ x = .iface t2 v) (ht : Und P t (.interface ms))
    (k : TO P r c L ops Q rest ⟨nt, (ds, .bool true) :: l, gb⟩) : TO P r c L ops Q (⟨some ds, .binOp .neq t x (.const .nilIface) t', ty, pos, af, none⟩ :: rest) ⟨nt, l, gb⟩ := TO.p (DP.niv hx ht) k
end
end Pw

