/- Lemmas for the proofs of this seat: no statement of the seat is claimed here. -/
import Derived.Test.YtcidilijlgaohaaDoorPx8
set_option linter.all false
namespace Pw
open Go
/-! ## Regions whose order is open: a plan -/
section
variable {P : Program} {r : Rd} {ops : Array Oper} {Q : Exit → Act → World → Prop}
/-- Behind an operation that is not of ns the world is as it was. -/
def wpAnyN (P : Program) (r : Rd) (ops : Array Oper) (Q : Exit → Act → World → Prop) (ns : List Nat) : Nat → Array Bool → Act → World → Prop
  | 0, listed, a, w => Region.ready .any ops listed = [] ∧ Q .normal a w
  | fuel + 1, listed, a, w =>
    (Region.ready .any ops listed = [] → Q .normal a w) ∧
    ∀ i ∈ Region.ready .any ops listed, wpOpIn (Wf r) 0 P ops Q i (fun a' w' => (ns.contains i = false → w' = w) ∧ wpAnyN P r ops Q ns fuel (listed.setIfInBounds i true) a' w') a w
theorem wpAnyIn_of_N {ns : List Nat} : ∀ (fuel : Nat) (listed : Array Bool) (a : Act) (w : World), wpAnyN P r ops Q ns fuel listed a w → wpAnyIn (Wf r) 0 P .any ops Q fuel listed a w
  | 0, _, _, _, h => h
  | fuel + 1, _, _, _, h => ⟨h.1, fun i hi => wpOpIn_mono (fun a' w' h' => wpAnyIn_of_N fuel _ a' w' h'.2) (h.2 i hi)⟩
theorem wpAnyN_first {ns : List Nat} {S0 : World → Prop} {i : Nat} {oi : Oper} {v : Value} (hi : ops[i]? = some oi) (hsel : ∀ (j : Nat) (o : Oper) cs b, ops[j]? = some o → o.op ≠ .select cs b)
    (hdef : ∀ (j : Nat) (o : Oper) d, ops[j]? = some o → o.op ≠ .defer d)
    (hQ : ∀ c a w, Q (.panic c) (a.put oi.dst v) w → Q (.panic c) a w) (hin : ns.contains i = false) :
    ∀ (fuel : Nat) (listed : Array Bool) (a : Act) (w : World), Cl ops listed →
      ((∀ w, S0 w) ∨ ∀ j ∈ ns, listed.getD j true = false → Anc ops i j) →
      (∀ j oj, ops[j]? = some oj → j ≠ i → listed.getD j true = false → (∀ e ∈ oj.after, Region.binds .any e = true → e.on ≠ i) → oi.apart ops oj = true) →
      i ∈ Region.ready .any ops listed → YieldsS P ops S0 oi v a → S0 w →
      wpAnyN P r ops Q ns fuel (listed.setIfInBounds i true) (a.put oi.dst v) w → wpAnyN P r ops Q ns (fuel + 1) listed a w := by
  intro fuel
  have one : ∀ (fuel : Nat) (listed : Array Bool) (a : Act) (w : World), YieldsS P ops S0 oi v a → S0 w → wpAnyN P r ops Q ns fuel (listed.setIfInBounds i true) (a.put oi.dst v) w →
      wpOpIn (Wf r) 0 P ops Q i (fun a' w' => (ns.contains i = false → w' = w) ∧ wpAnyN P r ops Q ns fuel (listed.setIfInBounds i true) a' w') a w := fun fuel listed a w hy hS H => hy.wpOp hi hS ⟨fun _ => rfl, H⟩
  induction fuel with
  | zero =>
    intro listed a w _ _ _ hr hy hS H
    refine ⟨fun h => (by rw [h] at hr; cases hr), fun j hj => ?_⟩
    by_cases hji : j = i
    · subst hji; exact one _ _ _ _ hy hS H
    · have := ready_mono hj hji
      rw [H.1] at this
      cases this
  | succ fuel ih =>
    intro listed a w hcl hS0 hfree hr hy hS H
    refine ⟨fun h => (by rw [h] at hr; cases hr), fun j hj => ?_⟩
    by_cases hji : j = i
    · subst hji; exact one _ _ _ _ hy hS H
    · have h1 := H.2 j (ready_mono hj hji)
      obtain ⟨hjun, oj, hoj, hall⟩ := mem_ready.1 hj
      have hiun : listed.getD i true = false := (mem_ready.1 hr).1
      have hnot : ∀ e ∈ oj.after, Region.binds .any e = true → e.on ≠ i := fun e he hb heq => by
        have h1 := hall e he hb
        rw [heq] at h1
        rw [getD_false_true h1] at hiun; cases hiun
      have hunl : ∀ k, (listed.setIfInBounds j true).getD k true = false → listed.getD k true = false := fun k hun => by
        by_cases hjk : j = k
        · subst hjk; exact hjun
        · rw [getD_set_ne true hjk] at hun; exact hun
      have hfree' : ∀ k ok, ops[k]? = some ok → k ≠ i → (listed.setIfInBounds j true).getD k true = false →
          (∀ e ∈ ok.after, Region.binds .any e = true → e.on ≠ i) → oi.apart ops ok = true := fun k ok hk hki hun hno => hfree k ok hk hki (hunl k hun) hno
      have hri : i ∈ Region.ready .any ops (listed.setIfInBounds j true) := ready_mono hr (Ne.symm hji)
      have h2 := wpOpS_put hoj (hfree j oj hoj hji hjun hnot) (fun cs b => hsel i oi cs b hi) (fun cs b => hsel j oj cs b hoj) (fun d => hdef j oj d hoj) hQ hy h1
      refine wpOpIn_mono (fun a' w' h3 => ?_) h2
      refine ⟨h3.2.1, ih (listed.setIfInBounds j true) a' w' (hcl.set hj) ?_ hfree' hri h3.1 ?_ ?_⟩
      · rcases hS0 with hT | hanc
        · exact .inl hT
        · exact .inr fun k hk hun => hanc k hk (hunl k hun)
      · rcases hS0 with hT | hanc
        · exact hT w'
        · have hjn : ns.contains j = false := by
            cases hc : ns.contains j with
            | false => rfl
            | true =>
              have ha := hanc j (by simpa using hc) hjun
              have : listed.getD i false = true := by
                cases ha with
                | one ho he hb hi' => rw [hoj] at ho; cases ho; rw [← hi']; exact hall _ he hb
                | more ho he hb hi' => rw [hoj] at ho; cases ho; exact hcl.anc hi' (getD_false_true (hall _ he hb))
              rw [getD_false_true this] at hiun; cases hiun
          rw [h3.2.1 hjn]; exact hS
      · rw [Array.setIfInBounds_comm _ _ hji]
        exact h3.2.2

/-- A plan: in which order they are looked at. p: needs no memory; d: reads; n: the only one that may come up; b2, b3: several may. -/
inductive Sch where
  | fin
  | p (i : Nat) (s : Sch)
  | d (i : Nat) (s : Sch)
  | n (i : Nat) (s : Sch)
  | b2 (i : Nat) (s : Sch) (j : Nat) (t : Sch)
  | b3 (i : Nat) (s : Sch) (j : Nat) (t : Sch) (k : Nat) (u : Sch)
def Sch.dep : Sch → Nat
  | .fin => 0
  | .p _ s | .d _ s | .n _ s | .b2 _ s _ _ | .b3 _ s _ _ _ _ => s.dep + 1
def okSch (ops : Array Oper) (ns : List Nat) : Sch → Array Bool → Bool
  | .fin, listed => (Region.ready .any ops listed).isEmpty
  | .p i s, listed => okTake ops listed i && !ns.contains i && okSch ops ns s (listed.setIfInBounds i true)
  | .d i s, listed => okTake ops listed i && !ns.contains i && (ns.all fun j => listed.getD j true || ((Region.before ops).getD j 0).testBit i) && okSch ops ns s (listed.setIfInBounds i true)
  | .n i s, listed => (Region.ready .any ops listed == [i]) && okSch ops ns s (listed.setIfInBounds i true)
  | .b2 i s j t, listed => (Region.ready .any ops listed == [i, j]) && Nat.beq s.dep t.dep && okSch ops ns s (listed.setIfInBounds i true) && okSch ops ns t (listed.setIfInBounds j true)
  | .b3 i s j t k u, listed => (Region.ready .any ops listed == [i, j, k]) && Nat.beq s.dep t.dep && Nat.beq s.dep u.dep && okSch ops ns s (listed.setIfInBounds i true) && okSch ops ns t (listed.setIfInBounds j true) && okSch ops ns u (listed.setIfInBounds k true)
end

/-- The judgement along a plan. -/
def TS (P : Program) (r : Rd) (c : Ctx) (ns : List Nat) (ops : Array Oper) (Q : Exit → Env → Rd → World → Prop) (s : Sch) (L : List Assn) (E : Env) : Prop :=
  ∀ listed : Array Bool, Calm Q → Cl ops listed → okSch ops ns s listed = true → ∀ w, SL c L w → wpAnyN P r ops (lift Q) ns s.dep listed (E.acd r) w

section
variable {P : Program} {r : Rd} {c : Ctx} {ns : List Nat} {ops : Array Oper} {Q : Exit → Env → Rd → World → Prop} {L : List Assn} {E : Env}
theorem T.plan (id : Nat) (ns : List Nat) (s : Sch) {l : List Oper} (h : TS P r c ns l.toArray Q s L E) (hok : okSch l.toArray ns s (Array.replicate l.length false) = true) (hd : s.dep = l.length) (hm : P.follows .mixedOrders = true) (hq : Calm Q) : T P r c L (.region id l.toArray true) Q E := by
  unfold T
  intro w hw
  refine wpIn_region_any hm (wpAnyIn_of_N (ns := ns) _ _ _ _ ?_)
  have := h (Array.replicate l.length false) hq (by have := Cl.init l.toArray; simpa using this) hok { w with drawn := w.drawn + 1 } hw
  rw [hd] at this
  simpa using this
theorem TS.fin (k : TQ r c L Q .normal E) : TS P r c ns ops Q .fin L E := fun listed _ _ hok w hw => by
  unfold TQ at k
  refine ⟨?_, E, r, rfl, k w hw⟩
  simpa [okSch] using hok
theorem TS.take {tag : Nat → Sch → Sch} {i : Nat} {s : Sch} {o : Oper} {v : Value} {S0 : World → Prop} (ho : ops[i]? = some o) (hd : (tag i s).dep = s.dep + 1) (hk : ∀ listed, okSch ops ns (tag i s) listed = true → okTake ops listed i = true ∧ ns.contains i = false ∧ ((∀ w, S0 w) ∨ ∀ j ∈ ns, listed.getD j true = false → Anc ops i j) ∧ okSch ops ns s (listed.setIfInBounds i true) = true)
    (hS : ∀ w, SL c L w → S0 w) (hy : YieldsS P ops S0 o v (E.acd r)) (k : TS P r c ns ops Q s L (E.puto o.dst v)) : TS P r c ns ops Q (tag i s) L E := fun listed hq hcl hok w hw => by
  obtain ⟨h0, hn, hA, hok'⟩ := hk listed hok
  simp only [okTake, Bool.and_eq_true] at h0
  obtain ⟨⟨h1, h2⟩, h3⟩ := h0
  have hr : i ∈ Region.ready .any ops listed := by simpa using h3
  rw [hd]
  refine wpAnyN_first (S0 := S0) (v := v) ho (noDefer_s h1) (noDefer_d h1) (fun ch a w => lift_panic hq ch _ _ w) hn s.dep listed (E.acd r) w hcl hA (Region.free_spec ho h2) hr hy (hS w hw) ?_
  rw [E.acd_put]
  exact k _ hq (hcl.set hr) hok' w hw
theorem ok_p {i : Nat} {s : Sch} (listed : Array Bool) (h : okSch ops ns (.p i s) listed = true) : okTake ops listed i = true ∧ ns.contains i = false ∧ ((∀ w : World, True) ∨ ∀ j ∈ ns, listed.getD j true = false → Anc ops i j) ∧ okSch ops ns s (listed.setIfInBounds i true) = true := by
  simp only [okSch, Bool.and_eq_true, Bool.not_eq_true'] at h
  exact ⟨h.1.1, h.1.2, .inl fun _ => trivial, h.2⟩
theorem ok_d {S0 : World → Prop} {i : Nat} {s : Sch} (listed : Array Bool) (h : okSch ops ns (.d i s) listed = true) : okTake ops listed i = true ∧ ns.contains i = false ∧ ((∀ w : World, S0 w) ∨ ∀ j ∈ ns, listed.getD j true = false → Anc ops i j) ∧ okSch ops ns s (listed.setIfInBounds i true) = true := by
  simp only [okSch, Bool.and_eq_true, Bool.not_eq_true', List.all_eq_true, Bool.or_eq_true] at h
  refine ⟨h.1.1.1, h.1.1.2, .inr fun j hj hu => ?_, h.2⟩
  rcases h.1.2 j hj with h5 | h5
  · rw [h5] at hu; cases hu
  · exact before_anc ops j i h5
/-- One that comes up now, and then the plan s. -/
def TN (P : Program) (r : Rd) (c : Ctx) (ns : List Nat) (ops : Array Oper) (Q : Exit → Env → Rd → World → Prop) (i : Nat) (s : Sch) (L : List Assn) (E : Env) : Prop :=
  ∀ listed : Array Bool, Calm Q → Cl ops (listed.setIfInBounds i true) → okSch ops ns s (listed.setIfInBounds i true) = true → ∀ w, SL c L w →
    wpOpIn (Wf r) 0 P ops (lift Q) i (fun a' w' => (ns.contains i = false → w' = w) ∧ wpAnyN P r ops (lift Q) ns s.dep (listed.setIfInBounds i true) a' w') (E.acd r) w
theorem TS.one {i : Nat} {s : Sch} (h : TN P r c ns ops Q i s L E) : TS P r c ns ops Q (.n i s) L E := fun listed hq hcl hok w hw => by
  simp only [okSch, Bool.and_eq_true] at hok
  have hr : Region.ready .any ops listed = [i] := by simpa using hok.1
  have hi : i ∈ Region.ready .any ops listed := by rw [hr]; simp
  refine ⟨fun h => (by rw [h] at hr; cases hr), fun j hj => ?_⟩
  rw [hr] at hj
  obtain rfl : j = i := by simpa using hj
  exact h listed hq (hcl.set hi) hok.2 w hw
theorem TS.two {i j : Nat} {s t : Sch} (h : TN P r c ns ops Q i s L E ∧ TN P r c ns ops Q j t L E) : TS P r c ns ops Q (.b2 i s j t) L E := fun listed hq hcl hok w hw => by
  simp only [okSch, Bool.and_eq_true] at hok
  obtain ⟨⟨⟨h0, hd⟩, h1⟩, h2⟩ := hok
  have hr : Region.ready .any ops listed = [i, j] := by simpa using h0
  have hd' := Nat.eq_of_beq_eq_true hd
  refine ⟨fun h => (by rw [h] at hr; cases hr), fun q hq' => ?_⟩
  have hq0 := hq'
  rw [hr] at hq'
  rcases List.mem_cons.1 hq' with rfl | hq'
  · exact h.1 listed hq (hcl.set hq0) h1 w hw
  · obtain rfl : q = j := by simpa using hq'
    have := h.2 listed hq (hcl.set hq0) h2 w hw
    rw [← hd'] at this; exact this
theorem TS.three {i j m : Nat} {s t u : Sch} (h : TN P r c ns ops Q i s L E ∧ TN P r c ns ops Q j t L E ∧ TN P r c ns ops Q m u L E) : TS P r c ns ops Q (.b3 i s j t m u) L E := fun listed hq hcl hok w hw => by
  simp only [okSch, Bool.and_eq_true] at hok
  obtain ⟨⟨⟨⟨⟨h0, hd⟩, hd2⟩, h1⟩, h2⟩, h3⟩ := hok
  have hr : Region.ready .any ops listed = [i, j, m] := by simpa using h0
  have hd' := Nat.eq_of_beq_eq_true hd
  have hd2' := Nat.eq_of_beq_eq_true hd2
  refine ⟨fun h => (by rw [h] at hr; cases hr), fun q hq' => ?_⟩
  have hq0 := hq'
  rw [hr] at hq'
  rcases List.mem_cons.1 hq' with rfl | hq'
  · exact h.1 listed hq (hcl.set hq0) h1 w hw
  · rcases List.mem_cons.1 hq' with rfl | hq'
    · have := h.2.1 listed hq (hcl.set hq0) h2 w hw
      rw [← hd'] at this; exact this
    · obtain rfl : q = m := by simpa using hq'
      have := h.2.2 listed hq (hcl.set hq0) h3 w hw
      rw [← hd2'] at this; exact this
theorem TN.n {i : Nat} {s : Sch} {o : Oper} {Φ : Value → List Assn → Prop} (ho : ops[i]? = some o) (hns : ns.contains i = true) (hw : Region.wanted o (yielded ops (E.acd r).tmps) = true) (hn : N P r c L E o Φ)
    (k : ∀ v L', Φ v L' → TS P r c ns ops Q s L' (E.puto o.dst v)) : TN P r c ns ops Q i s L E := fun listed hq hcl hok w hw' => by
  unfold wpOpIn
  simp only [ho]
  rw [if_pos hw]
  unfold N at hn
  refine hn w hw' _ _ fun v L' w' hΦ hw' => ⟨fun h => (by rw [hns] at h; cases h), ?_⟩
  rw [E.acd_put]
  exact k v L' hΦ _ hq hcl hok w' hw'
theorem TN.d {i : Nat} {s : Sch} {o : Oper} {v : Value} (ho : ops[i]? = some o) (hw : Region.wanted o (yielded ops (E.acd r).tmps) = true) (hd : D P c L E o v)
    (k : TS P r c ns ops Q s L (E.puto o.dst v)) : TN P r c ns ops Q i s L E := fun listed hq hcl hok w hw' => by
  unfold D at hd
  refine YieldsS.wpOp (S := SL c L) (v := v) ho (.inl ⟨hw, hd.1, fun w hw => by rw [Env.acd_eval]; exact hd.2 w hw⟩) hw' ⟨fun _ => rfl, ?_⟩
  rw [E.acd_put]
  exact k _ hq hcl hok w hw'
theorem TN.off {i : Nat} {s : Sch} {o : Oper} (ho : ops[i]? = some o) (hw : Region.wanted o (yielded ops (E.acd r).tmps) = false)
    (k : TS P r c ns ops Q s L (E.puto o.dst undef)) : TN P r c ns ops Q i s L E := fun listed hq hcl hok w hw' => by
  refine YieldsS.wpOp (S := SL c L) (v := undef) ho (.inr ⟨hw, rfl⟩) hw' ⟨fun _ => rfl, ?_⟩
  rw [E.acd_put]
  exact k _ hq hcl hok w hw'

section
variable {nt : Nat} {l : List (Nat × Value)} {gb : Nat → Value} {ds : Nat} {op : Op} {ty : TypeId} {pos : String} {af : Array Edge} {j i : Nat} {want : Bool} {s : Sch} {ro : RO} {W : (Value → Prop) → Prop} {V : (Value → List Assn → Prop) → Prop}
theorem TS.p0 (ho : ops[i]? = some ⟨some ds, op, ty, pos, af, none⟩) (hr : rsv ⟨nt, l, gb⟩ op = ro) [h : Pu P ro W] (k : W (fun v => TS P r c ns ops Q s L ⟨nt, (ds, v) :: l, gb⟩)) : TS P r c ns ops Q (.p i s) L ⟨nt, l, gb⟩ := by
  obtain ⟨v, hd, hk⟩ := h.go _ (some ds) op ty pos af none (rsv_ok hr) _ k
  unfold DP at hd
  exact TS.take (S0 := fun _ => True) ho rfl (fun listed h => ok_p listed h) (fun _ _ => trivial) (.inl ⟨wanted_none rfl, hd.1, fun w _ => by rw [Env.acd_eval]; exact hd.2 w⟩) hk
theorem TS.py (ho : ops[i]? = some ⟨some ds, op, ty, pos, af, some (j, want)⟩) (hy : Env.yl ⟨nt, l, gb⟩ ops j = some want) (hr : rsv ⟨nt, l, gb⟩ op = ro) [h : Pu P ro W] (k : W (fun v => TS P r c ns ops Q s L ⟨nt, (ds, v) :: l, gb⟩)) : TS P r c ns ops Q (.p i s) L ⟨nt, l, gb⟩ := by
  obtain ⟨v, hd, hk⟩ := h.go _ (some ds) op ty pos af (some (j, want)) (rsv_ok hr) _ k
  unfold DP at hd
  exact TS.take (S0 := fun _ => True) ho rfl (fun listed h => ok_p listed h) (fun _ _ => trivial) (.inl ⟨by show Region.wanted _ (Go.yielded ops (Env.act ⟨nt, l, gb⟩).tmps) = true; rw [Env.wanted rfl hy]; simp, hd.1, fun w _ => by rw [Env.acd_eval]; exact hd.2 w⟩) hk
theorem TS.pn {b : Bool} (ho : ops[i]? = some ⟨some ds, op, ty, pos, af, some (j, want)⟩) (hy : Env.yl ⟨nt, l, gb⟩ ops j = some b) (hb : (b == want) = false) (k : TS P r c ns ops Q s L ⟨nt, (ds, undef) :: l, gb⟩) : TS P r c ns ops Q (.p i s) L ⟨nt, l, gb⟩ :=
  TS.take (S0 := fun _ => True) ho rfl (fun listed h => ok_p listed h) (fun _ _ => trivial) (.inr ⟨by show Region.wanted _ (Go.yielded ops (Env.act ⟨nt, l, gb⟩).tmps) = false; rw [Env.wanted rfl hy]; exact hb, rfl⟩) k
theorem TS.pu (ho : ops[i]? = some ⟨some ds, op, ty, pos, af, some (j, want)⟩) (hy : Env.yl ⟨nt, l, gb⟩ ops j = none) (k : TS P r c ns ops Q s L ⟨nt, (ds, undef) :: l, gb⟩) : TS P r c ns ops Q (.p i s) L ⟨nt, l, gb⟩ :=
  TS.take (S0 := fun _ => True) ho rfl (fun listed h => ok_p listed h) (fun _ _ => trivial) (.inr ⟨Env.wantedN rfl hy, rfl⟩) k
theorem TS.d0 (ho : ops[i]? = some ⟨some ds, op, ty, pos, af, none⟩) (hr : rsv ⟨nt, l, gb⟩ op = ro) [h : Re P c L ro W] (k : W (fun v => TS P r c ns ops Q s L ⟨nt, (ds, v) :: l, gb⟩)) : TS P r c ns ops Q (.d i s) L ⟨nt, l, gb⟩ := by
  obtain ⟨v, hd, hk⟩ := h.go _ (some ds) op ty pos af none (rsv_ok hr) _ k
  unfold D at hd
  exact TS.take (S0 := SL c L) ho rfl (fun listed h => ok_d listed h) (fun _ h => h) (.inl ⟨wanted_none rfl, hd.1, fun w hw => by rw [Env.acd_eval]; exact hd.2 w hw⟩) hk
theorem TS.dy (ho : ops[i]? = some ⟨some ds, op, ty, pos, af, some (j, want)⟩) (hy : Env.yl ⟨nt, l, gb⟩ ops j = some want) (hr : rsv ⟨nt, l, gb⟩ op = ro) [h : Re P c L ro W] (k : W (fun v => TS P r c ns ops Q s L ⟨nt, (ds, v) :: l, gb⟩)) : TS P r c ns ops Q (.d i s) L ⟨nt, l, gb⟩ := by
  obtain ⟨v, hd, hk⟩ := h.go _ (some ds) op ty pos af (some (j, want)) (rsv_ok hr) _ k
  unfold D at hd
  exact TS.take (S0 := SL c L) ho rfl (fun listed h => ok_d listed h) (fun _ h => h) (.inl ⟨by show Region.wanted _ (Go.yielded ops (Env.act ⟨nt, l, gb⟩).tmps) = true; rw [Env.wanted rfl hy]; simp, hd.1, fun w hw => by rw [Env.acd_eval]; exact hd.2 w hw⟩) hk
theorem TS.dn {b : Bool} (ho : ops[i]? = some ⟨some ds, op, ty, pos, af, some (j, want)⟩) (hy : Env.yl ⟨nt, l, gb⟩ ops j = some b) (hb : (b == want) = false) (k : TS P r c ns ops Q s L ⟨nt, (ds, undef) :: l, gb⟩) : TS P r c ns ops Q (.d i s) L ⟨nt, l, gb⟩ :=
  TS.take (S0 := SL c L) ho rfl (fun listed h => ok_d listed h) (fun _ h => h) (.inr ⟨by show Region.wanted _ (Go.yielded ops (Env.act ⟨nt, l, gb⟩).tmps) = false; rw [Env.wanted rfl hy]; exact hb, rfl⟩) k
theorem TS.du (ho : ops[i]? = some ⟨some ds, op, ty, pos, af, some (j, want)⟩) (hy : Env.yl ⟨nt, l, gb⟩ ops j = none) (k : TS P r c ns ops Q s L ⟨nt, (ds, undef) :: l, gb⟩) : TS P r c ns ops Q (.d i s) L ⟨nt, l, gb⟩ :=
  TS.take (S0 := SL c L) ho rfl (fun listed h => ok_d listed h) (fun _ h => h) (.inr ⟨Env.wantedN rfl hy, rfl⟩) k
/-! the ones that come up alone -/
theorem TN.r0 (ho : ops[i]? = some ⟨some ds, op, ty, pos, af, none⟩) (hr : rsv ⟨nt, l, gb⟩ op = ro) [h : Re P c L ro W] (k : W (fun v => TS P r c ns ops Q s L ⟨nt, (ds, v) :: l, gb⟩)) : TN P r c ns ops Q i s L ⟨nt, l, gb⟩ := by
  obtain ⟨v, hd, hk⟩ := h.go _ (some ds) op ty pos af none (rsv_ok hr) _ k
  exact TN.d ho (wanted_none rfl) hd hk
theorem TN.ry (ho : ops[i]? = some ⟨some ds, op, ty, pos, af, some (j, want)⟩) (hy : Env.yl ⟨nt, l, gb⟩ ops j = some want) (hr : rsv ⟨nt, l, gb⟩ op = ro) [h : Re P c L ro W] (k : W (fun v => TS P r c ns ops Q s L ⟨nt, (ds, v) :: l, gb⟩)) : TN P r c ns ops Q i s L ⟨nt, l, gb⟩ := by
  obtain ⟨v, hd, hk⟩ := h.go _ (some ds) op ty pos af (some (j, want)) (rsv_ok hr) _ k
  exact TN.d ho (by show Region.wanted _ (Go.yielded ops (Env.act ⟨nt, l, gb⟩).tmps) = true; rw [Env.wanted rfl hy]; simp) hd hk
theorem TN.s0 (ho : ops[i]? = some ⟨some ds, op, ty, pos, af, none⟩) (hns : ns.contains i = true) (hr : rsv ⟨nt, l, gb⟩ op = ro) [h : St P c L ro V] (k : V (fun v L' => TS P r c ns ops Q s L' ⟨nt, (ds, v) :: l, gb⟩)) : TN P r c ns ops Q i s L ⟨nt, l, gb⟩ :=
  TN.n ho hns (wanted_none rfl) (h.go r _ _ _ _ _ _ _ (rsv_ok hr) _ k) fun _ _ hk => hk
theorem TN.sz (ho : ops[i]? = some ⟨none, op, ty, pos, af, none⟩) (hns : ns.contains i = true) (hr : rsv ⟨nt, l, gb⟩ op = ro) [h : St P c L ro V] (k : V (fun _ L' => TS P r c ns ops Q s L' ⟨nt, l, gb⟩)) : TN P r c ns ops Q i s L ⟨nt, l, gb⟩ :=
  TN.n ho hns (wanted_none rfl) (h.go r _ _ _ _ _ _ _ (rsv_ok hr) _ k) fun _ _ hk => hk
theorem TN.sy (ho : ops[i]? = some ⟨some ds, op, ty, pos, af, some (j, want)⟩) (hns : ns.contains i = true) (hy : Env.yl ⟨nt, l, gb⟩ ops j = some want) (hr : rsv ⟨nt, l, gb⟩ op = ro) [h : St P c L ro V] (k : V (fun v L' => TS P r c ns ops Q s L' ⟨nt, (ds, v) :: l, gb⟩)) : TN P r c ns ops Q i s L ⟨nt, l, gb⟩ :=
  TN.n ho hns (by show Region.wanted _ (Go.yielded ops (Env.act ⟨nt, l, gb⟩).tmps) = true; rw [Env.wanted rfl hy]; simp) (h.go r _ _ _ _ _ _ _ (rsv_ok hr) _ k) fun _ _ hk => hk
theorem TN.no {b : Bool} (ho : ops[i]? = some ⟨some ds, op, ty, pos, af, some (j, want)⟩) (hy : Env.yl ⟨nt, l, gb⟩ ops j = some b) (hb : (b == want) = false) (k : TS P r c ns ops Q s L ⟨nt, (ds, undef) :: l, gb⟩) : TN P r c ns ops Q i s L ⟨nt, l, gb⟩ :=
  TN.off ho (by show Region.wanted _ (Go.yielded ops (Env.act ⟨nt, l, gb⟩).tmps) = false; rw [Env.wanted rfl hy]; exact hb) k
theorem TN.nu (ho : ops[i]? = some ⟨some ds, op, ty, pos, af, some (j, want)⟩) (hy : Env.yl ⟨nt, l, gb⟩ ops j = none) (k : TS P r c ns ops Q s L ⟨nt, (ds, undef) :: l, gb⟩) : TN P r c ns ops Q i s L ⟨nt, l, gb⟩ :=
  TN.off ho (Env.wantedN rfl hy) k
/-! a guard that is not known -/
def gslot (ops : Array Oper) (i : Nat) : Option Nat := match ops[i]? with | some o => (match o.guard with | some (j, _) => nthDst ops.toList j | none => none) | none => none
def Sch.hd : Sch → Nat
  | .fin => 0
  | .p i _ | .d i _ | .n i _ | .b2 i _ _ _ | .b3 i _ _ _ _ _ => i
theorem TS.gS {t : Nat} {b : Bool} (ht : gslot ops s.hd = some t) (hv : Env.get ⟨nt, l, gb⟩ t = .bool b)
    (h : (b = true → TS P r c ns ops Q s L ⟨nt, (t, .bool true) :: l, gb⟩) ∧ (b = false → TS P r c ns ops Q s L ⟨nt, (t, .bool false) :: l, gb⟩)) : TS P r c ns ops Q s L ⟨nt, l, gb⟩ := by
  unfold TS
  intro listed hq hcl hok w hw
  cases b with
  | true => rw [Env.acd_congr (Env.put_same t _ hv) r]; have := h.1 rfl; unfold TS at this; exact this listed hq hcl hok w hw
  | false => rw [Env.acd_congr (Env.put_same t _ hv) r]; have := h.2 rfl; unfold TS at this; exact this listed hq hcl hok w hw
theorem TS.gD {t : Nat} {p : Prop} {inst : Decidable p} (ht : gslot ops s.hd = some t) (hv : Env.get ⟨nt, l, gb⟩ t = .bool (@decide p inst))
    (h : (p → TS P r c ns ops Q s L ⟨nt, (t, .bool true) :: l, gb⟩) ∧ (¬ p → TS P r c ns ops Q s L ⟨nt, (t, .bool false) :: l, gb⟩)) : TS P r c ns ops Q s L ⟨nt, l, gb⟩ :=
  TS.gS ht hv ⟨fun h' => h.1 (of_decide_eq_true h'), fun h' => h.2 (of_decide_eq_false h')⟩
/-- The guard is known. -/
theorem TO.kT {o : Oper} {rest : List Oper} {j : Nat} {want : Bool} (_ : o.guard = some (j, want)) (_ : Env.yl ⟨nt, l, gb⟩ ops j = some true) (k : TO P r c L ops Q (o :: rest) ⟨nt, l, gb⟩) : TO P r c L ops Q (o :: rest) ⟨nt, l, gb⟩ := k
theorem TO.kF {o : Oper} {rest : List Oper} {j : Nat} {want : Bool} (_ : o.guard = some (j, want)) (_ : Env.yl ⟨nt, l, gb⟩ ops j = some false) (k : TO P r c L ops Q (o :: rest) ⟨nt, l, gb⟩) : TO P r c L ops Q (o :: rest) ⟨nt, l, gb⟩ := k
theorem TS.kT {t : Nat} (_ : gslot ops s.hd = some t) (_ : Env.get ⟨nt, l, gb⟩ t = .bool true) (k : TS P r c ns ops Q s L ⟨nt, l, gb⟩) : TS P r c ns ops Q s L ⟨nt, l, gb⟩ := k
theorem TS.kF {t : Nat} (_ : gslot ops s.hd = some t) (_ : Env.get ⟨nt, l, gb⟩ t = .bool false) (k : TS P r c ns ops Q s L ⟨nt, l, gb⟩) : TS P r c ns ops Q s L ⟨nt, l, gb⟩ := k
end
end
/-! ### calm ends -/
class CalmC (Q : Exit → Env → Rd → World → Prop) : Prop where h : Calm Q
instance {P : Program} {fn : Func} {c : Ctx} {R : List Assn} {B : Value → List Assn → Prop} : CalmC (retQ P fn c R B) := ⟨Calm.rt⟩
instance {P : Program} {r : Rd} {y : Code} {Q : Exit → Env → Rd → World → Prop} [h : CalmC Q] : CalmC (thenQ P r y Q) := ⟨Calm.t h.h⟩
instance {id : Nat} {Q : Exit → Env → Rd → World → Prop} [h : CalmC Q] : CalmC (blockQ id Q) := ⟨Calm.b h.h⟩
instance {r : Rd} {c : Ctx} {S : Type} {n : Nat} {sl : S → List (Nat × Value)} {H : S → List Assn} {I : S → Prop} {Q : Exit → Env → Rd → World → Prop} [h : CalmC Q] : CalmC (cutQ r c n sl H I Q) := ⟨Calm.ct h.h⟩
instance {r : Rd} {c : Ctx} {S : Type} {n : Nat} {sl : S → List (Nat × Value)} {H : S → List Assn} {I : S → Prop} {μ : S → Nat} {s : S} {Q : Exit → Env → Rd → World → Prop} [h : CalmC Q] : CalmC (loopQ r c n sl H I μ s Q) := ⟨Calm.l h.h⟩
instance {r : Rd} {c : Ctx} {L : List Assn} {n : Nat} {l : List (Nat × Value)} {g : Nat → Value} {D : List Nat} {d : Nat} {b : Bool} : CalmC (mrgQ r c L n l g D d b) := ⟨fun _ _ _ _ h => h⟩
class Mixed (P : Program) : Prop where h : P.follows .mixedOrders = true
theorem T.pl (id : Nat) (ns : List Nat) (s : Sch) {P : Program} {r : Rd} {c : Ctx} {L : List Assn} {Q : Exit → Env → Rd → World → Prop} {E : Env} {l : List Oper} [hm : Mixed P] [hq : CalmC Q] (h : TS P r c ns l.toArray Q s L E) (hok : okSch l.toArray ns s (Array.replicate l.length false) = true := by kernel_rfl) (hd : s.dep = l.length := by rfl) : T P r c L (.region id l.toArray true) Q E := T.plan id ns s h hok hd hm.h hq.h
attribute [irreducible] TS TN
end Pw
