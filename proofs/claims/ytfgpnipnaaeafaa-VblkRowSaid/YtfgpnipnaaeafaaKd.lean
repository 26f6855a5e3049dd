/- Lemmas for the proofs of this seat: no statement of the seat is claimed here. -/
import Derived.Test.YtfgpnipnaaeafaaProg
import Derived.Test.YtfgpnipnaaeafaaKa
import Derived.KernelRfl
import Derived.Test.YtfgpnipnaaeafaaKc
set_option linter.all false

namespace Pw
open Go
/-! Regions whose order is open, step by step (the old way). -/
section
variable {P : Program} {r : Rd} {ops : Array Oper} {c : Ctx} {Lr L : List Assn} {ns : List Nat} {fuel : Nat} {listed : Array Bool} {E : Env}
section
variable {Q : Exit → Act → World → Prop} {S : World → Prop}
def wpAnyS (P : Program) (r : Rd) (ops : Array Oper) (Q : Exit → Act → World → Prop) (S : World → Prop) (ns : List Nat) : Nat → Array Bool → Act → World → Prop
  | 0, listed, a, w => Region.ready .any ops listed = [] ∧ Q .normal a w
  | fuel + 1, listed, a, w =>
    (Region.ready .any ops listed = [] → Q .normal a w) ∧
    ∀ i ∈ Region.ready .any ops listed, wpOpIn (Wf r) 0 P ops Q i (fun a' w' => (ns.contains i = false → S w → S w') ∧ wpAnyS P r ops Q S ns fuel (listed.setIfInBounds i true) a' w') a w
theorem wpAnyIn_of_S {ns : List Nat} : ∀ (fuel : Nat) (listed : Array Bool) (a : Act) (w : World), wpAnyS P r ops Q S ns fuel listed a w → wpAnyIn (Wf r) 0 P .any ops Q fuel listed a w
  | 0, _, _, _, h => h
  | fuel + 1, _, _, _, h => ⟨h.1, fun i hi => wpOpIn_mono (fun a' w' h' => wpAnyIn_of_S fuel _ a' w' h'.2) (h.2 i hi)⟩
theorem wpAnyS_first {ns : List Nat} {S0 : World → Prop} {i : Nat} {oi : Oper} {v : Value} (hi : ops[i]? = some oi) (hsel : ∀ (j : Nat) (o : Oper) cs b, ops[j]? = some o → o.op ≠ .select cs b)
    (hdef : ∀ (j : Nat) (o : Oper) d, ops[j]? = some o → o.op ≠ .defer d)
    (hQ : ∀ c a w, Q (.panic c) (a.put oi.dst v) w → Q (.panic c) a w) (hS0 : (∀ w, S0 w) ∨ (S0 = S ∧ ns.contains i = false ∧ ∀ j ∈ ns, Anc ops i j)) :
    ∀ (fuel : Nat) (listed : Array Bool) (a : Act) (w : World), Cl ops listed →
      (∀ j oj, ops[j]? = some oj → j ≠ i → listed.getD j true = false → (∀ e ∈ oj.after, Region.binds .any e = true → e.on ≠ i) → oi.apart ops oj = true) →
      i ∈ Region.ready .any ops listed → YieldsS P ops S0 oi v a → S0 w →
      wpAnyS P r ops Q S ns fuel (listed.setIfInBounds i true) (a.put oi.dst v) w → wpAnyS P r ops Q S ns (fuel + 1) listed a w := by
  intro fuel
  induction fuel with
  | zero =>
    intro listed a w _ _ hr hy hS H
    refine ⟨fun h => (by rw [h] at hr; cases hr), fun j hj => ?_⟩
    by_cases hji : j = i
    · subst hji; exact hy.wpOp hi hS ⟨fun _ h => h, H⟩
    · have := ready_mono hj hji
      rw [H.1] at this
      cases this
  | succ fuel ih =>
    intro listed a w hcl hfree hr hy hS H
    refine ⟨fun h => (by rw [h] at hr; cases hr), fun j hj => ?_⟩
    by_cases hji : j = i
    · subst hji; exact hy.wpOp hi hS ⟨fun _ h => h, H⟩
    · have h1 := H.2 j (ready_mono hj hji)
      obtain ⟨hjun, oj, hoj, hall⟩ := mem_ready.1 hj
      have hiun : listed.getD i true = false := (mem_ready.1 hr).1
      have hnot : ∀ e ∈ oj.after, Region.binds .any e = true → e.on ≠ i := fun e he hb heq => by
        have h1 := hall e he hb
        rw [heq] at h1
        rw [getD_false_true h1] at hiun; cases hiun
      have hfree' : ∀ k ok, ops[k]? = some ok → k ≠ i → (listed.setIfInBounds j true).getD k true = false →
          (∀ e ∈ ok.after, Region.binds .any e = true → e.on ≠ i) → oi.apart ops ok = true := fun k ok hk hki hun hno => by
        refine hfree k ok hk hki ?_ hno
        by_cases hjk : j = k
        · subst hjk; exact hjun
        · rw [getD_set_ne true hjk] at hun; exact hun
      have hri : i ∈ Region.ready .any ops (listed.setIfInBounds j true) := ready_mono hr (Ne.symm hji)
      have h2 := wpOpS_put hoj (hfree j oj hoj hji hjun hnot) (fun cs b => hsel i oi cs b hi) (fun cs b => hsel j oj cs b hoj) (fun d => hdef j oj d hoj) hQ hy h1
      refine wpOpIn_mono (fun a' w' h3 => ?_) h2
      rcases hS0 with hT | ⟨hSS, hin, hanc⟩
      · refine ⟨h3.2.1, ih (listed.setIfInBounds j true) a' w' (hcl.set hj) hfree' hri h3.1 (hT w') ?_⟩
        rw [Array.setIfInBounds_comm _ _ hji]
        exact h3.2.2
      · have hjn : ns.contains j = false := by
          cases hc : ns.contains j with
          | false => rfl
          | true =>
            have ha := hanc j (by simpa using hc)
            -- j is ready, so all that comes ahead of it is listed
            have : listed.getD i false = true := by
              cases ha with
              | one ho he hb hi' => rw [hoj] at ho; cases ho; rw [← hi']; exact hall _ he hb
              | more ho he hb hi' => rw [hoj] at ho; cases ho; exact hcl.anc hi' (getD_false_true (hall _ he hb))
            rw [getD_false_true this] at hiun; cases hiun
        subst hSS
        have hS' := h3.2.1 hjn hS
        refine ⟨h3.2.1, ih (listed.setIfInBounds j true) a' w' (hcl.set hj) hfree' hri h3.1 hS' ?_⟩
        rw [Array.setIfInBounds_comm _ _ hji]
        exact h3.2.2

end
section
variable {Q : Exit → Env → Rd → World → Prop} {nt : Nat} {l : List (Nat × Value)} {gb : Nat → Value} {ds : Nat} {op : Op} {ty : TypeId} {pos : String} {af : Array Edge} {j : Nat} {want : Bool} {v : Value} {Φ : Value → List Assn → Prop}
def TR (P : Program) (r : Rd) (c : Ctx) (Lr : List Assn) (ns : List Nat) (ops : Array Oper) (Q : Exit → Env → Rd → World → Prop) (fuel : Nat) (listed : Array Bool) (L : List Assn) (E : Env) : Prop :=
  Calm Q → Cl ops listed → ∀ w, SL c L w → wpAnyS P r ops (lift Q) (SL c Lr) ns fuel listed (E.acd r) w
theorem T.draw {id : Nat} {l : List Oper} {c : Ctx} {L : List Assn} {Q : Exit → Env → Rd → World → Prop} {E : Env} (Lr : List Assn) (ns : List Nat) (hm : P.follows .mixedOrders = true) (hq : Calm Q)
    (h : TR P r c Lr ns l.toArray Q l.length (Array.replicate l.length false) L E) : T P r c L (.region id l.toArray true) Q E := by
  unfold T
  intro w hw
  exact wpIn_region_any hm (wpAnyIn_of_S _ _ _ _ (by
    have := h hq (by have := Cl.init l.toArray; simpa using this) { w with drawn := w.drawn + 1 } hw
    simpa using this))

theorem TR.take (i : Nat) {o : Oper} {v : Value} (ho : ops[i]? = some o) (hk : okTake ops listed i = true) {S0 : World → Prop}
    (hS0 : (∀ w, S0 w) ∨ (S0 = SL c Lr ∧ okLoad ops ns i = true ∧ Ent c L Lr)) (hy : YieldsS P ops S0 o v (E.acd r))
    (k : TR P r c Lr ns ops Q fuel (listed.setIfInBounds i true) L (E.puto o.dst v)) : TR P r c Lr ns ops Q (fuel + 1) listed L E := fun hq hcl w hw => by
  simp only [okTake, Bool.and_eq_true] at hk
  obtain ⟨⟨h1, h2⟩, h3⟩ := hk
  have hr : i ∈ Region.ready .any ops listed := by simpa using h3
  refine wpAnyS_first (S0 := S0) (v := v) ho (noDefer_s h1) (noDefer_d h1) (fun ch a w => lift_panic hq ch _ _ _ w) ?_ fuel listed (E.acd r) w hcl
    (Region.free_spec ho h2) hr hy ?_ ?_
  · rcases hS0 with h | ⟨e, hl, _⟩
    · exact .inl h
    · simp only [okLoad, Bool.and_eq_true, Bool.not_eq_true', List.all_eq_true] at hl
      exact .inr ⟨e, hl.1, fun j hj => before_anc ops j i (hl.2 j hj)⟩
  · rcases hS0 with h | ⟨e, _, hL⟩
    · exact h w
    · rw [e]; exact hL w hw
  · rw [E.acd_put]; exact k hq (hcl.set hr) w hw
theorem TR.p (i : Nat) (ho : ops[i]? = some ⟨some ds, op, ty, pos, af, none⟩) (hk : okTake ops listed i = true) (hd : DP P ⟨nt, l, gb⟩ ⟨some ds, op, ty, pos, af, none⟩ v)
    (k : TR P r c Lr ns ops Q fuel (listed.setIfInBounds i true) L ⟨nt, (ds, v) :: l, gb⟩) : TR P r c Lr ns ops Q (fuel + 1) listed L ⟨nt, l, gb⟩ := by
  unfold DP at hd
  exact TR.take (S0 := fun _ => True) i ho hk (.inl fun _ => trivial) (.inl ⟨wanted_none rfl, hd.1, fun w _ => by rw [Env.acd_eval]; exact hd.2 w⟩) k
theorem TR.pon (i : Nat) (ho : ops[i]? = some ⟨some ds, op, ty, pos, af, some (j, want)⟩) (hk : okTake ops listed i = true) (hy : Env.yl ⟨nt, l, gb⟩ ops j = some want) (hd : DP P ⟨nt, l, gb⟩ ⟨some ds, op, ty, pos, af, some (j, want)⟩ v)
    (k : TR P r c Lr ns ops Q fuel (listed.setIfInBounds i true) L ⟨nt, (ds, v) :: l, gb⟩) : TR P r c Lr ns ops Q (fuel + 1) listed L ⟨nt, l, gb⟩ := by
  unfold DP at hd
  exact TR.take (S0 := fun _ => True) i ho hk (.inl fun _ => trivial) (.inl ⟨by show Region.wanted _ (Go.yielded ops (Env.act ⟨nt, l, gb⟩).tmps) = _; rw [Env.wanted rfl hy]; simp, hd.1, fun w _ => by rw [Env.acd_eval]; exact hd.2 w⟩) k
theorem TR.off (i : Nat) {b : Bool} (ho : ops[i]? = some ⟨some ds, op, ty, pos, af, some (j, want)⟩) (hk : okTake ops listed i = true) (hy : Env.yl ⟨nt, l, gb⟩ ops j = some b) (hb : (b == want) = false)
    (k : TR P r c Lr ns ops Q fuel (listed.setIfInBounds i true) L ⟨nt, (ds, undef) :: l, gb⟩) : TR P r c Lr ns ops Q (fuel + 1) listed L ⟨nt, l, gb⟩ :=
  TR.take (S0 := fun _ => True) (v := undef) i ho hk (.inl fun _ => trivial) (.inr ⟨by show Region.wanted _ (Go.yielded ops (Env.act ⟨nt, l, gb⟩).tmps) = _; rw [Env.wanted rfl hy]; exact hb, rfl⟩) k
theorem TR.d (i : Nat) (ho : ops[i]? = some ⟨some ds, op, ty, pos, af, none⟩) (hk : okTake ops listed i = true) (hl : okLoad ops ns i = true) (hL : Ent c L Lr) (hd : D P c Lr ⟨nt, l, gb⟩ ⟨some ds, op, ty, pos, af, none⟩ v)
    (k : TR P r c Lr ns ops Q fuel (listed.setIfInBounds i true) L ⟨nt, (ds, v) :: l, gb⟩) : TR P r c Lr ns ops Q (fuel + 1) listed L ⟨nt, l, gb⟩ := by
  unfold D at hd
  exact TR.take (S0 := SL c Lr) i ho hk (.inr ⟨rfl, hl, hL⟩) (.inl ⟨wanted_none rfl, hd.1, fun w hw => by rw [Env.acd_eval]; exact hd.2 w hw⟩) k
theorem TR.don (i : Nat) (ho : ops[i]? = some ⟨some ds, op, ty, pos, af, some (j, want)⟩) (hk : okTake ops listed i = true) (hl : okLoad ops ns i = true) (hL : Ent c L Lr) (hy : Env.yl ⟨nt, l, gb⟩ ops j = some want) (hd : D P c Lr ⟨nt, l, gb⟩ ⟨some ds, op, ty, pos, af, some (j, want)⟩ v)
    (k : TR P r c Lr ns ops Q fuel (listed.setIfInBounds i true) L ⟨nt, (ds, v) :: l, gb⟩) : TR P r c Lr ns ops Q (fuel + 1) listed L ⟨nt, l, gb⟩ := by
  unfold D at hd
  exact TR.take (S0 := SL c Lr) i ho hk (.inr ⟨rfl, hl, hL⟩) (.inl ⟨by show Region.wanted _ (Go.yielded ops (Env.act ⟨nt, l, gb⟩).tmps) = _; rw [Env.wanted rfl hy]; simp, hd.1, fun w hw => by rw [Env.acd_eval]; exact hd.2 w hw⟩) k
theorem TR.nn (i : Nat) {o : Oper} {Φ : Value → List Assn → Prop} (hr : Region.ready .any ops listed = [i]) (ho : ops[i]? = some o) (hw : Region.wanted o (yielded ops (E.acd r).tmps) = true) (hn : N P r c L E o Φ)
    (k : ∀ v L', Φ v L' → (ns.contains i = true ∨ Ent c L' Lr) ∧ TR P r c Lr ns ops Q fuel (listed.setIfInBounds i true) L' (E.puto o.dst v)) : TR P r c Lr ns ops Q (fuel + 1) listed L E := fun hq hcl w hw' => by
  unfold N at hn
  have hi : i ∈ Region.ready .any ops listed := by rw [hr]; simp
  refine ⟨fun h => (by rw [h] at hr; cases hr), fun j hj => ?_⟩
  rw [hr] at hj
  obtain rfl : j = i := by simpa using hj
  unfold wpOpIn
  simp only [ho]
  rw [if_pos hw]
  refine hn w hw' _ _ fun v L' w' hΦ hw' => ?_
  obtain ⟨h1, h2⟩ := k v L' hΦ
  refine ⟨fun hni _ => ?_, by rw [E.acd_put]; exact h2 hq (hcl.set hi) w' hw'⟩
  rcases h1 with h1 | h1
  · rw [h1] at hni; cases hni
  · exact h1 w' hw'
theorem TR.n (i : Nat) (hr : Region.ready .any ops listed = [i]) (ho : ops[i]? = some ⟨some ds, op, ty, pos, af, none⟩) (hn : N P r c L ⟨nt, l, gb⟩ ⟨some ds, op, ty, pos, af, none⟩ Φ)
    (k : ∀ v L', Φ v L' → (ns.contains i = true ∨ Ent c L' Lr) ∧ TR P r c Lr ns ops Q fuel (listed.setIfInBounds i true) L' ⟨nt, (ds, v) :: l, gb⟩) : TR P r c Lr ns ops Q (fuel + 1) listed L ⟨nt, l, gb⟩ :=
  TR.nn i hr ho (wanted_none rfl) hn k
theorem TR.n0 (i : Nat) (hr : Region.ready .any ops listed = [i]) (ho : ops[i]? = some ⟨none, op, ty, pos, af, none⟩) (hn : N P r c L ⟨nt, l, gb⟩ ⟨none, op, ty, pos, af, none⟩ Φ)
    (k : ∀ v L', Φ v L' → (ns.contains i = true ∨ Ent c L' Lr) ∧ TR P r c Lr ns ops Q fuel (listed.setIfInBounds i true) L' ⟨nt, l, gb⟩) : TR P r c Lr ns ops Q (fuel + 1) listed L ⟨nt, l, gb⟩ :=
  TR.nn i hr ho (wanted_none rfl) hn k
theorem TR.non (i : Nat) (hr : Region.ready .any ops listed = [i]) (ho : ops[i]? = some ⟨some ds, op, ty, pos, af, some (j, want)⟩) (hy : Env.yl ⟨nt, l, gb⟩ ops j = some want) (hn : N P r c L ⟨nt, l, gb⟩ ⟨some ds, op, ty, pos, af, some (j, want)⟩ Φ)
    (k : ∀ v L', Φ v L' → (ns.contains i = true ∨ Ent c L' Lr) ∧ TR P r c Lr ns ops Q fuel (listed.setIfInBounds i true) L' ⟨nt, (ds, v) :: l, gb⟩) : TR P r c Lr ns ops Q (fuel + 1) listed L ⟨nt, l, gb⟩ :=
  TR.nn i hr ho (by show Region.wanted _ (Go.yielded ops (Env.act ⟨nt, l, gb⟩).tmps) = _; rw [Env.wanted rfl hy]; simp) hn k
theorem TR.all {rs : List Nat} (hr : Region.ready .any ops listed = rs) (hne : rs ≠ [])
    (k : ∀ i ∈ rs, ∃ (o : Oper) (Φ : Value → List Assn → Prop), ops[i]? = some o ∧ o.guard = none ∧ N P r c L E o Φ ∧
      ∀ v L', Φ v L' → (ns.contains i = true ∨ Ent c L' Lr) ∧ TR P r c Lr ns ops Q fuel (listed.setIfInBounds i true) L' (E.puto o.dst v)) : TR P r c Lr ns ops Q (fuel + 1) listed L E := fun hq hcl w hw => by
  refine ⟨fun h => absurd (hr ▸ h) hne, fun j hj => ?_⟩
  obtain ⟨o, Φ, ho, hg, hn, k⟩ := k j (hr ▸ hj)
  unfold N at hn
  unfold wpOpIn
  simp only [ho]
  rw [if_pos (wanted_none hg)]
  refine hn w hw _ _ fun v L' w' hΦ hw' => ?_
  obtain ⟨h1, h2⟩ := k v L' hΦ
  refine ⟨fun hni _ => ?_, by rw [E.acd_put]; exact h2 hq (hcl.set hj) w' hw'⟩
  rcases h1 with h1 | h1
  · rw [h1] at hni; cases hni
  · exact h1 w' hw'
theorem TR.done (hr : Region.ready .any ops listed = []) (k : TQ r c L Q .normal E) : TR P r c Lr ns ops Q fuel listed L E := fun _ _ w hw => by
  unfold TQ at k
  cases fuel with
  | zero => exact ⟨hr, E, r, rfl, k w hw⟩
  | succ fuel => exact ⟨fun _ => ⟨E, r, rfl, k w hw⟩, by rw [hr]; simp⟩
theorem TR.pB (i : Nat) {p : Prop} {inst : Decidable p} (ho : ops[i]? = some ⟨some ds, op, ty, pos, af, none⟩) (hk : okTake ops listed i = true) (h : DP P ⟨nt, l, gb⟩ ⟨some ds, op, ty, pos, af, none⟩ (.bool (@decide p inst)))
    (kt : p → TR P r c Lr ns ops Q fuel (listed.setIfInBounds i true) L ⟨nt, (ds, .bool true) :: l, gb⟩) (kf : ¬ p → TR P r c Lr ns ops Q fuel (listed.setIfInBounds i true) L ⟨nt, (ds, .bool false) :: l, gb⟩) : TR P r c Lr ns ops Q (fuel + 1) listed L ⟨nt, l, gb⟩ := by
  by_cases hp : p
  · exact TR.p i ho hk (by rw [decide_eq_true hp] at h; exact h) (kt hp)
  · exact TR.p i ho hk (by rw [decide_eq_false hp] at h; exact h) (kf hp)
theorem TR.pb (i : Nat) {b : Bool} (ho : ops[i]? = some ⟨some ds, op, ty, pos, af, none⟩) (hk : okTake ops listed i = true) (h : DP P ⟨nt, l, gb⟩ ⟨some ds, op, ty, pos, af, none⟩ (.bool b))
    (kt : b = true → TR P r c Lr ns ops Q fuel (listed.setIfInBounds i true) L ⟨nt, (ds, .bool true) :: l, gb⟩) (kf : b = false → TR P r c Lr ns ops Q fuel (listed.setIfInBounds i true) L ⟨nt, (ds, .bool false) :: l, gb⟩) : TR P r c Lr ns ops Q (fuel + 1) listed L ⟨nt, l, gb⟩ := by
  cases b
  · exact TR.p i ho hk h (kf rfl)
  · exact TR.p i ho hk h (kt rfl)
theorem TR.ponB (i : Nat) {p : Prop} {inst : Decidable p} {j : Nat} {want : Bool} (ho : ops[i]? = some ⟨some ds, op, ty, pos, af, some (j, want)⟩) (hk : okTake ops listed i = true) (hy : Env.yl ⟨nt, l, gb⟩ ops j = some want) (h : DP P ⟨nt, l, gb⟩ ⟨some ds, op, ty, pos, af, some (j, want)⟩ (.bool (@decide p inst)))
    (kt : p → TR P r c Lr ns ops Q fuel (listed.setIfInBounds i true) L ⟨nt, (ds, .bool true) :: l, gb⟩) (kf : ¬ p → TR P r c Lr ns ops Q fuel (listed.setIfInBounds i true) L ⟨nt, (ds, .bool false) :: l, gb⟩) : TR P r c Lr ns ops Q (fuel + 1) listed L ⟨nt, l, gb⟩ := by
  by_cases hp : p
  · exact TR.pon i ho hk hy (by rw [decide_eq_true hp] at h; exact h) (kt hp)
  · exact TR.pon i ho hk hy (by rw [decide_eq_false hp] at h; exact h) (kf hp)
theorem TR.ponb (i : Nat) {b : Bool} {j : Nat} {want : Bool} (ho : ops[i]? = some ⟨some ds, op, ty, pos, af, some (j, want)⟩) (hk : okTake ops listed i = true) (hy : Env.yl ⟨nt, l, gb⟩ ops j = some want) (h : DP P ⟨nt, l, gb⟩ ⟨some ds, op, ty, pos, af, some (j, want)⟩ (.bool b))
    (kt : b = true → TR P r c Lr ns ops Q fuel (listed.setIfInBounds i true) L ⟨nt, (ds, .bool true) :: l, gb⟩) (kf : b = false → TR P r c Lr ns ops Q fuel (listed.setIfInBounds i true) L ⟨nt, (ds, .bool false) :: l, gb⟩) : TR P r c Lr ns ops Q (fuel + 1) listed L ⟨nt, l, gb⟩ := by
  cases b
  · exact TR.pon i ho hk hy h (kf rfl)
  · exact TR.pon i ho hk hy h (kt rfl)
theorem TR.two (i j : Nat) {d1 d2 : Nat} {op1 op2 : Op} {ty1 ty2 : TypeId} {pos1 pos2 : String} {af1 af2 : Array Edge} {Φ1 Φ2 : Value → List Assn → Prop} (hr : Region.ready .any ops listed = [i, j])
    (ho1 : ops[i]? = some ⟨some d1, op1, ty1, pos1, af1, none⟩) (hn1 : N P r c L ⟨nt, l, gb⟩ ⟨some d1, op1, ty1, pos1, af1, none⟩ Φ1)
    (ho2 : ops[j]? = some ⟨some d2, op2, ty2, pos2, af2, none⟩) (hn2 : N P r c L ⟨nt, l, gb⟩ ⟨some d2, op2, ty2, pos2, af2, none⟩ Φ2)
    (k1 : ∀ v L', Φ1 v L' → (ns.contains i = true ∨ Ent c L' Lr) ∧ TR P r c Lr ns ops Q fuel (listed.setIfInBounds i true) L' ⟨nt, (d1, v) :: l, gb⟩)
    (k2 : ∀ v L', Φ2 v L' → (ns.contains j = true ∨ Ent c L' Lr) ∧ TR P r c Lr ns ops Q fuel (listed.setIfInBounds j true) L' ⟨nt, (d2, v) :: l, gb⟩) :
    TR P r c Lr ns ops Q (fuel + 1) listed L ⟨nt, l, gb⟩ := by
  refine TR.all hr (by simp) fun m hm => ?_
  simp only [List.mem_cons, List.not_mem_nil, or_false] at hm
  rcases hm with rfl | rfl
  · exact ⟨_, Φ1, ho1, rfl, hn1, k1⟩
  · exact ⟨_, Φ2, ho2, rfl, hn2, k2⟩
theorem T.drawL {P : Program} {r : Rd} {id : Nat} {l : List Oper} {c : Ctx} {L : List Assn} {Q : Exit → Env → Rd → World → Prop} {E : Env} (ns : List Nat) (hm : P.follows .mixedOrders = true) (hq : Calm Q)
    (h : TR P r c L ns l.toArray Q l.length (Array.replicate l.length false) L E) : T P r c L (.region id l.toArray true) Q E := T.draw L ns hm hq h
end
end
end Pw


namespace Go.Proofs.Ytfgpnipnaaeafaa
open Go Pw
theorem ag110 : aggT Try.prog 110 = true := by kernel_rfl
theorem by5 : Try.prog.bytesOf 5 = 1 := by kernel_rfl
theorem by110 : Try.prog.bytesOf 110 = 8 := by kernel_rfl
theorem gd110 : Try.prog.eqGuardType Try.prog.depth 110 = false := by kernel_rfl
theorem is3 : (Try.prog.underlying 3).isSome = true := by kernel_rfl
theorem is5 : (Try.prog.underlying 5).isSome = true := by kernel_rfl
theorem is39 : (Try.prog.underlying 39).isSome = true := by kernel_rfl
theorem is30 : (Try.prog.underlying 30).isSome = true := by kernel_rfl
theorem is63 : (Try.prog.underlying 63).isSome = true := by kernel_rfl
theorem is107 : (Try.prog.underlying 107).isSome = true := by kernel_rfl
theorem pc110 : placesOf Try.prog 110 = some [(0, 1), (1, 1)] := by kernel_rfl
theorem pc70 : placesOf Try.prog 70 = some [(0, 1), (1, 1)] := by kernel_rfl
theorem pl3 : plainT Try.prog 3 = true := by kernel_rfl
theorem pl5 : plainT Try.prog 5 = true := by kernel_rfl
theorem pl25 : plainT Try.prog 25 = true := by kernel_rfl
theorem pl30 : plainT Try.prog 30 = true := by kernel_rfl
theorem pl68 : plainT Try.prog 68 = true := by kernel_rfl
theorem pl59 : plainT Try.prog 59 = true := by kernel_rfl
theorem si110 : Try.prog.stoodInHeld 110 = false := by kernel_rfl
theorem sz3 : Try.prog.cellsOf 3 = 0 + 1 := by kernel_rfl
theorem sz5 : Try.prog.cellsOf 5 = 0 + 1 := by kernel_rfl
theorem sz25 : Try.prog.cellsOf 25 = 0 + 1 := by kernel_rfl
theorem sz30 : Try.prog.cellsOf 30 = 0 + 1 := by kernel_rfl
theorem sz68 : Try.prog.cellsOf 68 = 0 + 1 := by kernel_rfl
theorem sz110 : Try.prog.cellsOf 110 = 1 + 1 := by kernel_rfl
theorem sz59 : Try.prog.cellsOf 59 = 0 + 1 := by kernel_rfl
theorem zr5 : Try.prog.zeroOf 5 = some (.int .u8 0) := by kernel_rfl
theorem zr110 : Try.prog.zeroOf 110 = some (.agg #[.int .u32 0, .int .u32 0]) := by kernel_rfl
theorem zr70 : Try.prog.zeroOf 70 = some (.agg #[.slice none 0 0, .slice none 0 0]) := by kernel_rfl
theorem mixed : Try.prog.follows .mixedOrders = true := by kernel_rfl
end Go.Proofs.Ytfgpnipnaaeafaa


namespace Go.Proofs.Ytfgpnipnaaeafaa
open Go Pw
/-! The plain side of Mem: what is lent is spans (where, how many). -/
abbrev Spn := Nat × Nat
def spv (s : Spn) : List Value := [.int .u32 s.1, .int .u32 s.2]
theorem spv_len (s : Spn) : (spv s).length = 2 := rfl
abbrev spans (ss : List Spn) : List Value := ss.flatMap spv
def ovl (a l : Nat) (x : Spn) : Nat := min (x.1 + x.2) (a + l) - max x.1 a
def sharedN (ss : List Spn) (a l : Nat) : Nat := (ss.map (ovl a l)).sum
theorem sharedN_succ {ss : List Spn} {i : Nat} {s : Spn} (h : ss[i]? = some s) (a l : Nat) : sharedN (ss.take (i + 1)) a l = sharedN (ss.take i) a l + ovl a l s := by
  unfold sharedN
  rw [List.take_add_one, h]
  simp
theorem sharedN_all (ss : List Spn) (a l : Nat) : sharedN (ss.take ss.length) a l = sharedN ss a l := by rw [List.take_length]
theorem ovl_le (a l : Nat) (x : Spn) : ovl a l x ≤ l := by unfold ovl; omega
theorem sharedN_le (ss : List Spn) (a l : Nat) : sharedN ss a l ≤ ss.length * l := by
  unfold sharedN
  induction ss with
  | nil => simp
  | cons x ss ih =>
    have := ovl_le a l x
    rw [List.map_cons, List.sum_cons, List.length_cons, Nat.succ_mul]; omega
theorem sharedN_take_le (ss : List Spn) (i a l : Nat) : sharedN (ss.take i) a l ≤ i * l :=
  Nat.le_trans (sharedN_le _ a l) (Nat.mul_le_mul_right _ (by simp; omega))

theorem rd_part {bs : List UInt8} {a m : Nat} : ∀ i v, (((bs.drop a).take m).map byteV)[i]? = some v → (bs.map byteV)[(if m = 0 then 0 else a) + i]? = some v := fun i v hv => by
  by_cases h0 : m = 0
  · subst h0; simp at hv
  · rw [if_neg h0]
    simp only [List.getElem?_map, List.getElem?_take, List.getElem?_drop] at hv ⊢
    split at hv
    · exact hv
    · cases hv
def putB (bs : List UInt8) (a : Nat) (s : List UInt8) : List UInt8 := bs.take a ++ s ++ bs.drop (a + s.length)
theorem putB_len {bs : List UInt8} {a : Nat} {s : List UInt8} (h : a + s.length ≤ bs.length) : (putB bs a s).length = bs.length := by
  unfold putB; simp; omega
theorem copy_part {bs : List UInt8} {a : Nat} {s : List UInt8} (h : a + s.length ≤ bs.length) : setAll (bs.map byteV) (if s.length = 0 then 0 else a) ((s.map byteV).take (min s.length s.length * (0 + 1))) = (putB bs a s).map byteV := by
  rw [List.take_of_length_le (by simp)]
  by_cases h0 : s.length = 0
  · have : s = [] := List.eq_nil_of_length_eq_zero h0
    subst this
    simp [setAll, putB]
  · rw [if_neg h0, setAll_eq _ _ _ (by simpa using h)]
    simp [putB]
theorem one_bytes (l : List UInt8) : ∀ u ∈ l.map byteV, u.oneCell' = true := fun u hu => by
  obtain ⟨x, _, rfl⟩ := List.mem_map.1 hu; rfl
theorem len_part {bs : List UInt8} {a m : Nat} (h : a + m ≤ bs.length) : ((bs.drop a).take m).length = m := by simp; omega

def leN (l : List UInt8) : Nat := l.foldr (fun b x => b.toNat + 256 * x) 0
theorem leN_nil : leN [] = 0 := rfl
theorem leN_append (l m : List UInt8) : leN (l ++ m) = leN l + 256 ^ l.length * leN m := by
  induction l with
  | nil => simp [leN]
  | cons a l ih =>
    have h1 : leN (a :: l ++ m) = a.toNat + 256 * leN (l ++ m) := rfl
    have h2 : leN (a :: l) = a.toNat + 256 * leN l := rfl
    rw [h1, h2, ih, List.length_cons, Nat.pow_succ, Nat.mul_add, Nat.mul_comm (256 ^ l.length) 256, Nat.mul_assoc, Nat.add_assoc]
theorem leN_lt (l : List UInt8) : leN l < 256 ^ l.length := by
  induction l with
  | nil => simp [leN]
  | cons a l ih =>
    have h2 : leN (a :: l) = a.toNat + 256 * leN l := rfl
    have := a.toNat_lt
    rw [h2, List.length_cons, Nat.pow_succ]; omega
theorem leN_succ {l : List UInt8} {i w : Nat} {b : UInt8} (h : l[i]? = some b) (hw : 8 * i + 8 ≤ w) : leN (l.take (i + 1)) = leN (l.take i) ||| (b.toNat * 2 ^ (8 * i) % 2 ^ w) := by
  have hi : i < l.length := by
    rcases Nat.lt_or_ge i l.length with h1 | h1
    · exact h1
    · rw [List.getElem?_eq_none h1] at h; cases h
  have hlt := leN_lt (l.take i)
  have hl : (l.take i).length = i := by simp; omega
  rw [hl] at hlt
  have he : (256 : Nat) ^ i = 2 ^ (8 * i) := by rw [Nat.pow_mul]
  rw [List.take_add_one, h, leN_append, hl]
  have hb : leN (some b).toList = b.toNat := by simp [leN]
  have hbl := b.toNat_lt
  have hm : b.toNat * 2 ^ (8 * i) < 2 ^ w := by
    have h1 : b.toNat * 2 ^ (8 * i) < 2 ^ 8 * 2 ^ (8 * i) := Nat.mul_lt_mul_of_pos_right (by omega) (Nat.two_pow_pos _)
    rw [← Nat.pow_add] at h1
    exact Nat.lt_of_lt_of_le h1 (Nat.pow_le_pow_right (by omega) (by omega))
  rw [hb, Nat.mod_eq_of_lt hm, he]
  rw [he] at hlt
  rw [Nat.or_comm, Nat.mul_comm b.toNat, ← Nat.two_pow_add_eq_or_of_lt hlt]
  omega
def leB (x n : Nat) : List UInt8 := (List.range n).map fun i => UInt8.ofNat (x / 2 ^ (8 * i) % 256)
theorem leB_len (x n : Nat) : (leB x n).length = n := by simp [leB]
theorem leB_set {x n i : Nat} (h : i < n) : ((leB x i ++ List.replicate (n - i) 0).map byteV).set i (.int .u8 ((x / 2 ^ (8 * i) % 256 : Nat) : Int)) = (leB x (i + 1) ++ List.replicate (n - (i + 1)) 0).map byteV := by
  have h1 : (.int .u8 ((x / 2 ^ (8 * i) % 256 : Nat) : Int) : Value) = byteV (UInt8.ofNat (x / 2 ^ (8 * i) % 256)) := by
    simp [byteV]
  rw [h1, ← List.map_set]
  congr 1
  rw [show n - i = (n - (i + 1)) + 1 by omega, List.replicate_succ]
  rw [List.set_append_right _ _ (by rw [leB_len]; omega), leB_len, Nat.sub_self, List.set_cons_zero]
  simp [leB, List.range_succ]
theorem leB_zero (x n : Nat) : List.replicate n (.int .u8 0) = (leB x 0 ++ List.replicate (n - 0) 0).map byteV := by simp [leB, byteV]
theorem leB_full (x n : Nat) : (leB x n ++ List.replicate (n - n) 0).map byteV = (leB x n).map byteV := by simp
theorem leB_mod {x n w : Nat} (h : 8 * n ≤ w) : leB (x % 2 ^ w) n = leB x n := by
  unfold leB
  apply List.map_congr_left
  intro i hi
  have hi' : i < n := by simpa using hi
  have h8 : 2 ^ w = 2 ^ (8 * i) * 2 ^ (w - 8 * i) := by rw [← Nat.pow_add]; congr 1; omega
  rw [h8, Nat.mod_mul_right_div_self]
  have h9 : 2 ^ (w - 8 * i) = 256 * 2 ^ (w - 8 * i - 8) := by rw [show (256 : Nat) = 2 ^ 8 from rfl, ← Nat.pow_add]; congr 1; omega
  rw [h9, Nat.mod_mul_right_mod]

theorem one_spans (ss : List Spn) : ∀ u ∈ spans ss, u.oneCell' = true := fun u hu => by
  obtain ⟨s, _, h⟩ := List.mem_flatMap.1 hu
  simp only [spv, List.mem_cons, List.not_mem_nil, or_false] at h
  rcases h with rfl | rfl <;> rfl

def mergeN (a l : Nat) : List Spn → Nat × List Spn
  | [] => (l, [])
  | x :: t => if a + l = x.1 then (l + x.2, t) else (l, x :: t)
def mergeP (pre : List Spn) (a l : Nat) (post : List Spn) : List Spn :=
  match pre.getLast? with
  | some x => if x.1 + x.2 = a then pre.dropLast ++ (x.1, x.2 + l) :: post else pre ++ (a, l) :: post
  | none => pre ++ (a, l) :: post
theorem mergeP_snoc (q : List Spn) (x : Spn) (a l : Nat) (post : List Spn) : mergeP (q ++ [x]) a l post = if x.1 + x.2 = a then q ++ (x.1, x.2 + l) :: post else q ++ [x] ++ (a, l) :: post := by
  simp [mergeP]
theorem spans_set {ss : List Spn} {i : Nat} {x : Spn} (h : ss[i]? = some x) (m : Nat) : (spans ss).set (i * 2 + 1) (.int .u32 m) = spans (ss.set i (x.1, m)) := by
  induction ss generalizing i with
  | nil => simp at h
  | cons y t ih =>
    cases i with
    | zero => simp at h; subst h; simp [spv]
    | succ i =>
      have := ih (i := i) (by simpa using h)
      unfold spans at *
      rw [List.set_cons_succ, List.flatMap_cons, List.flatMap_cons, ← this, List.set_append_right _ _ (by simp [spv]; omega)]
      congr 2
      simp [spv]; omega
theorem spans_at {ss : List Spn} {i : Nat} {x : Spn} (h : ss[i]? = some x) : (spans ss)[i * 2 + 0]? = some (.int .u32 x.1) := flat_elem spv_len h 0 _ rfl
theorem spans_ln {ss : List Spn} {i : Nat} {x : Spn} (h : ss[i]? = some x) : (spans ss)[i * 2 + 1]? = some (.int .u32 x.2) := flat_elem spv_len h 1 _ rfl

theorem mergeN_len (a l : Nat) (post : List Spn) : (mergeN a l post).2.length ≤ post.length := by
  cases post with
  | nil => simp [mergeN]
  | cons x t =>
    simp only [mergeN]
    split <;> simp

theorem del_next {α : Type} (q : List α) (x y : α) (t : List α) : (q ++ x :: y :: t).take (q.length + 1) ++ (q ++ x :: y :: t).drop (q.length + 1 + 1) = q ++ x :: t := by
  induction q with
  | nil => simp
  | cons a q ih => simp only [List.cons_append, List.length_cons, List.take_succ_cons, List.drop_succ_cons]; rw [ih]

def backOne (a l : Nat) (x : Spn) : List Spn :=
  if x.1 ≤ a ∧ a + l ≤ x.1 + x.2 then (if x.1 < a then [(x.1, a - x.1)] else []) ++ (if a + l < x.1 + x.2 then [(a + l, x.1 + x.2 - (a + l))] else []) else [x]
abbrev backL (a l : Nat) (ss : List Spn) : List Spn := ss.flatMap (backOne a l)
theorem backOne_len (a l : Nat) (x : Spn) : (backOne a l x).length ≤ 2 := by
  unfold backOne
  split
  · split <;> split <;> simp
  · simp
theorem backL_len (a l : Nat) (ss : List Spn) : (backL a l ss).length ≤ 2 * ss.length := by
  induction ss with
  | nil => simp
  | cons x t ih =>
    have := backOne_len a l x
    rw [backL, List.flatMap_cons, List.length_append, List.length_cons]; unfold backL at ih; omega
theorem backL_succ {ss : List Spn} {i : Nat} {s : Spn} (h : ss[i]? = some s) (a l : Nat) : backL a l (ss.take (i + 1)) = backL a l (ss.take i) ++ backOne a l s := by
  rw [List.take_add_one, h]; simp
theorem spans_snoc (acc : List Spn) (x y : Nat) : spans acc ++ [.int .u32 x, .int .u32 y] = spans (acc ++ [(x, y)]) := by simp [spv]
theorem len_snoc (acc : List Spn) (x y : Nat) : (acc ++ [(x, y)]).length = acc.length + 1 := by simp
end Go.Proofs.Ytfgpnipnaaeafaa


namespace Go.Proofs.Ytfgpnipnaaeafaa

/-! Spans that are in order, none next to another one; which bytes they have. -/
def Canon : Nat → Nat → List Spn → Prop
  | _, _, [] => True
  | lo, n, x :: t => lo ≤ x.1 ∧ 0 < x.2 ∧ x.1 + x.2 ≤ n ∧ Canon (x.1 + x.2 + 1) n t
def inS (ss : List Spn) (k : Nat) : Prop := ∃ s ∈ ss, s.1 ≤ k ∧ k < s.1 + s.2
instance (ss : List Spn) (k : Nat) : Decidable (inS ss k) := by unfold inS; infer_instance
theorem inS_nil (k : Nat) : ¬ inS [] k := fun ⟨s, h, _⟩ => by cases h
theorem inS_cons (x : Spn) (t : List Spn) (k : Nat) : inS (x :: t) k ↔ (x.1 ≤ k ∧ k < x.1 + x.2) ∨ inS t k := by
  unfold inS; simp
theorem inS_append (a b : List Spn) (k : Nat) : inS (a ++ b) k ↔ inS a k ∨ inS b k := by
  unfold inS; simp [or_and_right, exists_or]
theorem Canon.weak {lo lo' n : Nat} (h : lo' ≤ lo) : ∀ {ss : List Spn}, Canon lo n ss → Canon lo' n ss
  | [], _ => trivial
  | _ :: _, ⟨h1, h2, h3, h4⟩ => ⟨by omega, h2, h3, h4⟩
theorem Canon.ge {n : Nat} : ∀ {lo : Nat} {ss : List Spn}, Canon lo n ss → ∀ s ∈ ss, lo ≤ s.1 ∧ 0 < s.2 ∧ s.1 + s.2 ≤ n
  | _, [], _, _, h => by cases h
  | _, x :: t, ⟨h1, h2, h3, h4⟩, s, hs => by
    rcases List.mem_cons.1 hs with rfl | hs
    · exact ⟨h1, h2, h3⟩
    · have := h4.ge s hs; omega
theorem Canon.inS_ge {lo n : Nat} {ss : List Spn} (h : Canon lo n ss) {k : Nat} (hk : inS ss k) : lo ≤ k ∧ k < n := by
  obtain ⟨s, hs, h1, h2⟩ := hk
  have := h.ge s hs; omega
theorem Canon.len {n : Nat} : ∀ {lo : Nat} {ss : List Spn}, Canon lo n ss → lo ≤ n + 1 → ss.length + lo ≤ n + 1
  | _, [], _, h => by simpa using h
  | lo, x :: t, ⟨h1, h2, h3, h4⟩, _ => by
    have := h4.len (by omega); simp only [List.length_cons]; omega
theorem Canon.sort {n : Nat} : ∀ {lo : Nat} {ss : List Spn}, Canon lo n ss → ∀ (m h : Nat) (x y : Spn), m ≤ h → ss[m]? = some x → ss[h]? = some y → x.1 ≤ y.1
  | _, [], _, _, _, _, _, _, hx, _ => by simp at hx
  | _, z :: t, ⟨h1, h2, h3, h4⟩, 0, 0, x, y, _, hx, hy => by simp at hx hy; subst hx; subst hy; exact Nat.le_refl _
  | _, z :: t, ⟨h1, h2, h3, h4⟩, 0, h + 1, x, y, _, hx, hy => by
    simp at hx hy; subst hx
    have := h4.ge y (List.mem_of_getElem? hy); omega
  | _, z :: t, ⟨h1, h2, h3, h4⟩, m + 1, h + 1, x, y, hm, hx, hy => h4.sort m h x y (by omega) (by simpa using hx) (by simpa using hy)
/-- Two such lists with the same bytes are one. -/
theorem Canon.uniq {n : Nat} : ∀ {lo : Nat} {ss tt : List Spn}, Canon lo n ss → Canon lo n tt → (∀ k, inS ss k ↔ inS tt k) → ss = tt
  | _, [], [], _, _, _ => rfl
  | _, [], y :: t, _, ⟨h1, h2, h3, h4⟩, he => absurd ((he y.1).2 ((inS_cons ..).2 (.inl ⟨Nat.le_refl _, by omega⟩))) (inS_nil _)
  | _, x :: s, [], ⟨h1, h2, h3, h4⟩, _, he => absurd ((he x.1).1 ((inS_cons ..).2 (.inl ⟨Nat.le_refl _, by omega⟩))) (inS_nil _)
  | lo, x :: s, y :: t, ⟨a1, a2, a3, a4⟩, ⟨b1, b2, b3, b4⟩, he => by
    have e1 : ∀ k, inS s k → x.1 + x.2 + 1 ≤ k := fun k hk => (a4.inS_ge hk).1
    have e2 : ∀ k, inS t k → y.1 + y.2 + 1 ≤ k := fun k hk => (b4.inS_ge hk).1
    have he' : ∀ k, ((x.1 ≤ k ∧ k < x.1 + x.2) ∨ inS s k) ↔ ((y.1 ≤ k ∧ k < y.1 + y.2) ∨ inS t k) := fun k => by
      have := he k; rwa [inS_cons, inS_cons] at this
    have hx1 : x.1 = y.1 := by
      have p := (he' x.1).1 (.inl ⟨Nat.le_refl _, by omega⟩)
      have q := (he' y.1).2 (.inl ⟨Nat.le_refl _, by omega⟩)
      rcases p with p | p <;> rcases q with q | q
      · omega
      · have := e1 _ q; omega
      · have := e2 _ p; omega
      · have := e1 _ q; have := e2 _ p; omega
    have hx2 : x.2 = y.2 := by
      rcases Nat.lt_trichotomy x.2 y.2 with h | h | h
      · have p := (he' (x.1 + x.2)).2 (.inl ⟨by omega, by omega⟩)
        rcases p with p | p
        · omega
        · have := e1 _ p; omega
      · exact h
      · have p := (he' (y.1 + y.2)).1 (.inl ⟨by omega, by omega⟩)
        rcases p with p | p
        · omega
        · have := e2 _ p; omega
    have hxy : x = y := Prod.ext hx1 hx2
    subst hxy
    congr 1
    refine a4.uniq b4 fun k => ?_
    have h := he' k
    constructor
    · intro hk
      rcases h.1 (.inr hk) with p | p
      · have := e1 _ hk; omega
      · exact p
    · intro hk
      rcases h.2 (.inr hk) with p | p
      · have := e2 _ hk; omega
      · exact p
end Go.Proofs.Ytfgpnipnaaeafaa


namespace Go.Proofs.Ytfgpnipnaaeafaa

/-! How many of so many places have a mark. -/
def cnt (p : Nat → Prop) [DecidablePred p] (a : Nat) : Nat → Nat
  | 0 => 0
  | l + 1 => cnt p a l + if p (a + l) then 1 else 0
theorem cnt_le (p : Nat → Prop) [DecidablePred p] (a : Nat) : ∀ l, cnt p a l ≤ l
  | 0 => Nat.le_refl _
  | l + 1 => by have := cnt_le p a l; simp only [cnt]; split <;> omega
theorem cnt_or (p q r : Nat → Prop) [DecidablePred p] [DecidablePred q] [DecidablePred r] (hr : ∀ k, r k ↔ p k ∨ q k) (hd : ∀ k, ¬ (p k ∧ q k)) (a : Nat) : ∀ l, cnt r a l = cnt p a l + cnt q a l
  | 0 => rfl
  | l + 1 => by
    have h := cnt_or p q r hr hd a l
    have h1 := hr (a + l); have h2 := hd (a + l)
    simp only [cnt, h]
    by_cases hp : p (a + l) <;> by_cases hq : q (a + l) <;> simp [hp, hq, h1] <;> first | omega | exact absurd ⟨hp, hq⟩ h2
theorem cnt_int (u v a : Nat) : ∀ l, cnt (fun k => u ≤ k ∧ k < u + v) a l = ovl a l (u, v)
  | 0 => by simp only [cnt, ovl]; omega
  | l + 1 => by
    have h := cnt_int u v a l
    simp only [cnt, h, ovl]
    split <;> omega
theorem cnt_zero (p : Nat → Prop) [DecidablePred p] (hp : ∀ k, ¬ p k) (a : Nat) : ∀ l, cnt p a l = 0
  | 0 => rfl
  | l + 1 => by simp [cnt, cnt_zero p hp a l, hp]
theorem cnt_none (p : Nat → Prop) [DecidablePred p] (a : Nat) : ∀ l, cnt p a l = 0 ↔ ∀ k, a ≤ k → k < a + l → ¬ p k
  | 0 => by simp only [cnt, true_iff]; intro k h1 h2; omega
  | l + 1 => by
    have h := cnt_none p a l
    simp only [cnt]
    constructor
    · intro h0 k h1 h2
      by_cases hk : k = a + l
      · subst hk; intro hp; simp [hp] at h0
      · exact h.1 (by omega) k h1 (by omega)
    · intro h0
      have h1 := h.2 fun k h1 h2 => h0 k h1 (by omega)
      have h2 := h0 (a + l) (by omega) (by omega)
      simp [h1, h2]
theorem cnt_all (p : Nat → Prop) [DecidablePred p] (a : Nat) : ∀ l, l ≤ cnt p a l ↔ ∀ k, a ≤ k → k < a + l → p k
  | 0 => by simp only [Nat.zero_le, true_iff]; intro k h1 h2; omega
  | l + 1 => by
    have h := cnt_all p a l
    have hle := cnt_le p a l
    simp only [cnt]
    constructor
    · intro h0 k h1 h2
      by_cases hk : k = a + l
      · subst hk
        by_cases hp : p (a + l)
        · exact hp
        · simp [hp] at h0; omega
      · refine h.1 ?_ k h1 (by omega)
        split at h0 <;> omega
    · intro h0
      have h1 := h.2 fun k h1 h2 => h0 k h1 (by omega)
      have h2 := h0 (a + l) (by omega) (by omega)
      simp [h2]; omega
theorem shared_cnt {n : Nat} : ∀ {lo : Nat} {ss : List Spn}, Canon lo n ss → ∀ a l, sharedN ss a l = cnt (inS ss) a l
  | _, [], _, a, l => by rw [cnt_zero _ inS_nil]; rfl
  | lo, x :: t, ⟨h1, h2, h3, h4⟩, a, l => by
    rw [cnt_or (fun k => x.1 ≤ k ∧ k < x.1 + x.2) (inS t) (inS (x :: t)) (fun k => inS_cons x t k) (fun k hk => by have := (h4.inS_ge hk.2).1; omega) a l, cnt_int, ← shared_cnt h4]
    simp [sharedN]
theorem shared_none {lo n : Nat} {ss : List Spn} (h : Canon lo n ss) (a l : Nat) : sharedN ss a l = 0 ↔ ∀ k, a ≤ k → k < a + l → ¬ inS ss k := by
  rw [shared_cnt h]; exact cnt_none _ a l
theorem shared_all {lo n : Nat} {ss : List Spn} (h : Canon lo n ss) (a l : Nat) : l ≤ sharedN ss a l ↔ ∀ k, a ≤ k → k < a + l → inS ss k := by
  rw [shared_cnt h]; exact cnt_all _ a l
/-! Lists of spans, put together. -/
def endC : Nat → List Spn → Nat
  | lo, [] => lo
  | _, x :: t => endC (x.1 + x.2 + 1) t
theorem endC_snoc (lo : Nat) (q : List Spn) (x : Spn) : endC lo (q ++ [x]) = x.1 + x.2 + 1 := by
  induction q generalizing lo with
  | nil => rfl
  | cons y t ih => exact ih _
theorem Canon.app {n : Nat} : ∀ {lo : Nat} {q r : List Spn}, Canon lo n (q ++ r) ↔ Canon lo n q ∧ Canon (endC lo q) n r
  | lo, [], r => by simp [Canon, endC]
  | lo, x :: t, r => by
    simp only [List.cons_append, Canon, endC]
    rw [Canon.app]
    constructor
    · rintro ⟨a, b, c, d, e⟩; exact ⟨⟨a, b, c, d⟩, e⟩
    · rintro ⟨⟨a, b, c, d⟩, e⟩; exact ⟨a, b, c, d, e⟩
theorem Canon.wide {n n' : Nat} (h : n ≤ n') : ∀ {lo : Nat} {ss : List Spn}, Canon lo n ss → Canon lo n' ss
  | _, [], _ => trivial
  | _, _ :: _, ⟨h1, h2, h3, h4⟩ => ⟨h1, h2, by omega, h4.wide h⟩
theorem merge_n {n a l : Nat} {post : List Spn} {lo : Nat} (h : Canon lo n post) (hp : ∀ s ∈ post, a + l ≤ s.1) (hl : 0 < l) (han : a + l ≤ n) (lo' : Nat) (hlo : lo' ≤ a) :
    Canon lo' n ((a, (mergeN a l post).1) :: (mergeN a l post).2) ∧ ∀ k, inS ((a, (mergeN a l post).1) :: (mergeN a l post).2) k ↔ (a ≤ k ∧ k < a + l) ∨ inS post k := by
  cases post with
  | nil => exact ⟨⟨hlo, hl, han, trivial⟩, fun k => by rw [inS_cons]; rfl⟩
  | cons x t =>
    obtain ⟨h1, h2, h3, h4⟩ := h
    have hx := hp x (by simp)
    simp only [mergeN]
    by_cases hc : a + l = x.1
    · simp only [hc, if_true]
      refine ⟨⟨hlo, by omega, by omega, h4.weak (by omega)⟩, fun k => ?_⟩
      rw [inS_cons, inS_cons]
      constructor
      · rintro (hk | hk)
        · by_cases hk2 : k < x.1
          · exact .inl ⟨hk.1, hk2⟩
          · exact .inr (.inl ⟨by omega, by omega⟩)
        · exact .inr (.inr hk)
      · rintro (hk | hk | hk)
        · exact .inl ⟨hk.1, by omega⟩
        · exact .inl ⟨by omega, by omega⟩
        · exact .inr hk
    · simp only [hc, if_false]
      exact ⟨⟨hlo, hl, han, by omega, h2, h3, h4⟩, fun k => by rw [inS_cons]⟩
theorem lend_plain {n a l : Nat} {ss pre post : List Spn} (h : Canon 0 n ss) (he : ss = pre ++ post) (h1 : ∀ s ∈ pre, s.1 < a) (h2 : ∀ s ∈ post, a ≤ s.1) (hl : 0 < l) (han : a + l ≤ n) (hs : sharedN ss a l = 0) :
    Canon 0 n (mergeP pre a (mergeN a l post).1 (mergeN a l post).2) ∧ ∀ k, inS (mergeP pre a (mergeN a l post).1 (mergeN a l post).2) k ↔ (a ≤ k ∧ k < a + l) ∨ inS ss k := by
  have hn := (shared_none h a l).1 hs
  subst he
  have hpre : ∀ s ∈ pre, s.1 + s.2 ≤ a := fun s hm => by
    have hg := h.ge s (List.mem_append_left _ hm)
    have := h1 s hm
    rcases Nat.lt_or_ge a (s.1 + s.2) with hc | hc
    · exact absurd ⟨s, List.mem_append_left _ hm, by omega, hc⟩ (hn a (Nat.le_refl _) (by omega))
    · exact hc
  have hpost : ∀ s ∈ post, a + l ≤ s.1 := fun s hm => by
    have hg := h.ge s (List.mem_append_right _ hm)
    have := h2 s hm
    rcases Nat.lt_or_ge s.1 (a + l) with hc | hc
    · exact absurd ⟨s, List.mem_append_right _ hm, Nat.le_refl _, by omega⟩ (hn s.1 this hc)
    · exact hc
  obtain ⟨c1, c2⟩ := Canon.app.1 h
  rcases List.eq_nil_or_concat pre with rfl | ⟨q, x, rfl⟩
  · have := merge_n c2 hpost hl han 0 (Nat.zero_le _)
    simpa [mergeP] using this
  · rw [List.concat_eq_append] at *
    have hx := hpre x (by simp)
    rw [endC_snoc] at c2
    obtain ⟨d1, d2⟩ := Canon.app.1 c1
    obtain ⟨d3, d4, d5, _⟩ := d2
    rw [mergeP_snoc]
    by_cases hc : x.1 + x.2 = a
    · rw [if_pos hc]
      obtain ⟨m1, m2⟩ := merge_n c2 hpost hl han a (Nat.le_refl _)
      obtain ⟨_, m3, m4, m5⟩ := m1
      dsimp only at m3 m4 m5
      refine ⟨Canon.app.2 ⟨d1, d3, by dsimp only; omega, by dsimp only; omega, m5.weak (by dsimp only; omega)⟩, fun k => ?_⟩
      have hm := m2 k
      rw [inS_cons] at hm
      rw [inS_append, inS_cons, inS_append, inS_append, inS_cons]
      dsimp only at hm ⊢
      have e : (x.1 ≤ k ∧ k < x.1 + (x.2 + (mergeN a l post).1)) ↔ (x.1 ≤ k ∧ k < x.1 + x.2) ∨ (a ≤ k ∧ k < a + (mergeN a l post).1) := by omega
      rw [e, or_assoc, hm]
      have := inS_nil k
      constructor
      · rintro (h | h | h | h)
        · exact .inr (.inl (.inl h))
        · exact .inr (.inl (.inr (.inl h)))
        · exact .inl h
        · exact .inr (.inr h)
      · rintro (h | (h | h | h) | h)
        · exact .inr (.inr (.inl h))
        · exact .inl h
        · exact .inr (.inl h)
        · exact absurd h this
        · exact .inr (.inr (.inr h))
    · rw [if_neg hc]
      obtain ⟨m1, m2⟩ := merge_n c2 hpost hl han (x.1 + x.2 + 1) (by omega)
      refine ⟨Canon.app.2 ⟨c1, by rw [endC_snoc]; exact m1⟩, fun k => ?_⟩
      rw [inS_append (q ++ [x]), m2 k, inS_append (q ++ [x]) post]
      constructor
      · rintro (h | h | h)
        · exact .inr (.inl h)
        · exact .inl h
        · exact .inr (.inr h)
      · rintro (h | h | h)
        · exact .inr (.inl h)
        · exact .inl h
        · exact .inr (.inr h)
theorem Canon.gap {n : Nat} : ∀ {lo : Nat} {ss : List Spn}, Canon lo n ss → ∀ s ∈ ss, ¬ inS ss (s.1 + s.2)
  | _, [], _, _, h => by cases h
  | lo, x :: t, ⟨h1, h2, h3, h4⟩, s, hs => by
    rw [inS_cons]
    rcases List.mem_cons.1 hs with rfl | hs
    · rintro (h | h)
      · omega
      · have := (h4.inS_ge h).1; omega
    · rintro (h | h)
      · have := h4.ge s hs; omega
      · exact h4.gap s hs h
theorem Canon.one {n a l : Nat} {lo : Nat} {ss : List Spn} (h : Canon lo n ss) (hl : 0 < l) (ha : ∀ k, a ≤ k → k < a + l → inS ss k) : ∃ s ∈ ss, s.1 ≤ a ∧ a + l ≤ s.1 + s.2 := by
  obtain ⟨s, hs, h1, h2⟩ := ha a (Nat.le_refl _) (by omega)
  refine ⟨s, hs, h1, ?_⟩
  rcases Nat.lt_or_ge (s.1 + s.2) (a + l) with hc | hc
  · exact absurd (ha (s.1 + s.2) (by omega) hc) (h.gap s hs)
  · exact hc
theorem backL_above {a l : Nat} : ∀ {ss : List Spn}, (∀ s ∈ ss, a < s.1) → backL a l ss = ss
  | [], _ => rfl
  | x :: t, h => by
    have hx := h x (by simp)
    have ht := backL_above (a := a) (l := l) (ss := t) fun s hs => h s (List.mem_cons_of_mem _ hs)
    have h1 : backOne a l x = [x] := by unfold backOne; rw [if_neg (by omega)]
    unfold backL at ht ⊢
    rw [List.flatMap_cons, ht, h1]; rfl
theorem back_plain {n a l : Nat} (hl : 0 < l) : ∀ {lo : Nat} {ss : List Spn}, Canon lo n ss → (∃ s ∈ ss, s.1 ≤ a ∧ a + l ≤ s.1 + s.2) →
    Canon lo n (backL a l ss) ∧ ∀ k, inS (backL a l ss) k ↔ inS ss k ∧ ¬ (a ≤ k ∧ k < a + l)
  | _, [], _, ⟨_, h, _⟩ => by cases h
  | lo, x :: t, ⟨h1, h2, h3, h4⟩, ⟨s, hs, hs1, hs2⟩ => by
    have hcons : backL a l (x :: t) = backOne a l x ++ backL a l t := by rw [backL, List.flatMap_cons]
    rw [hcons]
    rcases List.mem_cons.1 hs with rfl | hs
    · have hab : backL a l t = t := backL_above fun y hy => by have := h4.ge y hy; omega
      rw [hab]
      unfold backOne
      rw [if_pos ⟨hs1, hs2⟩]
      have hk4 : ∀ k, inS t k → s.1 + s.2 + 1 ≤ k := fun k hk => (h4.inS_ge hk).1
      by_cases c1 : s.1 < a <;> by_cases c2 : a + l < s.1 + s.2 <;> simp only [c1, c2, if_true, if_false, List.append_assoc, List.cons_append, List.nil_append]
      · refine ⟨⟨h1, by dsimp only; omega, by dsimp only; omega, by dsimp only; omega, by dsimp only; omega, by dsimp only; omega, h4.weak (by dsimp only; omega)⟩, fun k => ?_⟩
        rw [inS_cons, inS_cons, inS_cons]
        dsimp only
        have := hk4 k
        by_cases hk : inS t k
        · have := this hk; simp only [hk, or_true, true_and, true_iff]; omega
        · simp only [hk, or_false]; omega
      · refine ⟨⟨h1, by dsimp only; omega, by dsimp only; omega, h4.weak (by dsimp only; omega)⟩, fun k => ?_⟩
        rw [inS_cons, inS_cons]
        dsimp only
        have := hk4 k
        by_cases hk : inS t k
        · have := this hk; simp only [hk, or_true, true_and, true_iff]; omega
        · simp only [hk, or_false]; omega
      · refine ⟨⟨by dsimp only; omega, by dsimp only; omega, by dsimp only; omega, h4.weak (by dsimp only; omega)⟩, fun k => ?_⟩
        rw [inS_cons, inS_cons]
        dsimp only
        have := hk4 k
        by_cases hk : inS t k
        · have := this hk; simp only [hk, or_true, true_and, true_iff]; omega
        · simp only [hk, or_false]; omega
      · refine ⟨h4.weak (by omega), fun k => ?_⟩
        rw [inS_cons]
        have := hk4 k
        by_cases hk : inS t k
        · have := this hk; simp only [hk, or_true, true_and, true_iff]; omega
        · simp only [hk, or_false, false_iff]; omega
    · have hg := h4.ge s hs
      obtain ⟨i1, i2⟩ := back_plain hl h4 ⟨s, hs, hs1, hs2⟩
      have hone : backOne a l x = [x] := by unfold backOne; rw [if_neg (by omega)]
      rw [hone]
      refine ⟨⟨h1, h2, h3, i1⟩, fun k => ?_⟩
      rw [List.singleton_append, inS_cons, i2 k, inS_cons]
      by_cases hk : inS t k
      · have := (h4.inS_ge hk).1; simp only [hk, or_true, true_and, true_iff]; omega
      · simp only [hk, or_false, false_and]; omega
/-! The marks, one for each byte. -/
def flags (n : Nat) (ss : List Spn) : List Bool := (List.range n).map fun k => decide (inS ss k)
theorem flags_len (n : Nat) (ss : List Spn) : (flags n ss).length = n := by simp [flags]
theorem flags_get {n k : Nat} {ss : List Spn} (h : k < n) : (flags n ss)[k]? = some (decide (inS ss k)) := by simp [flags, h]
theorem flags_ext {n : Nat} {ss : List Spn} {lt : List Bool} (hl : lt.length = n) (h : ∀ k, k < n → lt[k]? = some (decide (inS ss k))) : lt = flags n ss := by
  apply List.ext_getElem?
  intro k
  rcases Nat.lt_or_ge k n with hk | hk
  · rw [h k hk, flags_get hk]
  · rw [List.getElem?_eq_none (by omega), List.getElem?_eq_none (by rw [flags_len]; omega)]
def allB (lt : List Bool) (a l : Nat) (x : Bool) : Bool := ((lt.drop a).take l).all (· == x)
theorem allB_iff {lt : List Bool} {a l : Nat} {x : Bool} (h : a + l ≤ lt.length) : allB lt a l x = true ↔ ∀ k, a ≤ k → k < a + l → lt[k]? = some x := by
  unfold allB
  rw [List.all_eq_true]
  constructor
  · intro hh k h1 h2
    have hk : k < lt.length := by omega
    have hm : lt[k] ∈ (lt.drop a).take l := by
      rw [List.mem_iff_getElem?]
      exact ⟨k - a, by rw [List.getElem?_take, if_pos (by omega), List.getElem?_drop, show a + (k - a) = k by omega, List.getElem?_eq_getElem hk]⟩
    have := hh _ hm
    rw [List.getElem?_eq_getElem hk]
    simpa using this
  · intro hh y hy
    obtain ⟨j, hj⟩ := List.mem_iff_getElem?.1 hy
    rw [List.getElem?_take] at hj
    split at hj
    · rw [List.getElem?_drop, hh (a + j) (by omega) (by omega)] at hj
      cases hj; simp
    · cases hj
theorem all_false {n a l : Nat} {ss : List Spn} (h : Canon 0 n ss) (hb : a + l ≤ n) : allB (flags n ss) a l false = true ↔ sharedN ss a l = 0 := by
  rw [allB_iff (by rw [flags_len]; exact hb), shared_none h]
  constructor
  · intro hh k h1 h2 hk
    have := hh k h1 h2
    rw [flags_get (by omega)] at this
    simp [hk] at this
  · intro hh k h1 h2
    rw [flags_get (by omega)]
    simp [hh k h1 h2]
theorem all_true {n a l : Nat} {ss : List Spn} (h : Canon 0 n ss) (hb : a + l ≤ n) : allB (flags n ss) a l true = true ↔ l ≤ sharedN ss a l := by
  rw [allB_iff (by rw [flags_len]; exact hb), shared_all h]
  constructor
  · intro hh k h1 h2
    have := hh k h1 h2
    rw [flags_get (by omega)] at this
    simpa using this
  · intro hh k h1 h2
    rw [flags_get (by omega)]
    simp [hh k h1 h2]
def fillB (lt : List Bool) (a l : Nat) (x : Bool) : List Bool := lt.take a ++ List.replicate l x ++ lt.drop (a + l)
theorem fillB_len {lt : List Bool} {a l : Nat} {x : Bool} (h : a + l ≤ lt.length) : (fillB lt a l x).length = lt.length := by unfold fillB; simp; omega
theorem fillB_get {lt : List Bool} {a l : Nat} {x : Bool} (h : a + l ≤ lt.length) (k : Nat) (hk : k < lt.length) : (fillB lt a l x)[k]? = if a ≤ k ∧ k < a + l then some x else lt[k]? := by
  unfold fillB
  by_cases h1 : k < a
  · rw [List.append_assoc, List.getElem?_append_left (by simp; omega), List.getElem?_take, if_pos h1, if_neg (by omega)]
  · by_cases h2 : k < a + l
    · rw [List.getElem?_append_left (by simp; omega), List.getElem?_append_right (by simp; omega), if_pos ⟨by omega, h2⟩]
      rw [List.getElem?_replicate, if_pos (by simp; omega)]
    · rw [List.getElem?_append_right (by simp; omega), List.getElem?_drop, if_neg (by omega)]
      congr 1; simp; omega
theorem lend_flags {n a l : Nat} {ss tt : List Spn} (hb : a + l ≤ n) (h : ∀ k, inS tt k ↔ (a ≤ k ∧ k < a + l) ∨ inS ss k) : fillB (flags n ss) a l true = flags n tt := by
  refine flags_ext (by rw [fillB_len (by rw [flags_len]; exact hb), flags_len]) fun k hk => ?_
  rw [fillB_get (by rw [flags_len]; exact hb) k (by rw [flags_len]; exact hk), flags_get hk]
  have := h k
  split
  · rename_i hc; simp [this, hc]
  · rename_i hc; simp [this, hc]
theorem back_flags {n a l : Nat} {ss tt : List Spn} (hb : a + l ≤ n) (h : ∀ k, inS tt k ↔ inS ss k ∧ ¬ (a ≤ k ∧ k < a + l)) : fillB (flags n ss) a l false = flags n tt := by
  refine flags_ext (by rw [fillB_len (by rw [flags_len]; exact hb), flags_len]) fun k hk => ?_
  rw [fillB_get (by rw [flags_len]; exact hb) k (by rw [flags_len]; exact hk), flags_get hk]
  have := h k
  split
  · rename_i hc; simp [this, hc]
  · rename_i hc; simp only [this, hc, not_false_eq_true, and_true]
/-! What a call answers. -/
def readE (bs : List UInt8) (a : Nat) (n : Int) : List UInt8 × Nat := if n < 0 then ([], 2) else if a + n.toNat ≤ bs.length then ((bs.drop a).take n.toNat, 0) else ([], 10)
def writeE (bs : List UInt8) (lt : List Bool) (a : Nat) (s : List UInt8) (x : Bool) (e : Nat) : Nat × List UInt8 :=
  if a + s.length ≤ bs.length then (if allB lt a s.length x = true then (0, putB bs a s) else (e, bs)) else (10, bs)
def turnE (lt : List Bool) (a l : Nat) (x : Bool) (e : Nat) : Nat × List Bool :=
  if 0 < l ∧ a + l ≤ lt.length then (if allB lt a l (!x) = true then (0, fillB lt a l x) else (e, lt)) else (10, lt)
theorem writeE_len (bs : List UInt8) (lt : List Bool) (a : Nat) (s : List UInt8) (x : Bool) (e : Nat) : (writeE bs lt a s x e).2.length = bs.length := by
  unfold writeE
  split
  · split
    · rename_i h _; exact putB_len h
    · rfl
  · rfl
theorem turnE_len (lt : List Bool) (a l : Nat) (x : Bool) (e : Nat) : (turnE lt a l x e).2.length = lt.length := by
  unfold turnE
  split
  · split
    · rename_i h _; exact fillB_len h.2
    · rfl
  · rfl
def numE (bs : List UInt8) (a n : Nat) : Nat × Nat := if a + n ≤ bs.length then (leN ((bs.drop a).take n), 0) else (0, 10)
end Go.Proofs.Ytfgpnipnaaeafaa

