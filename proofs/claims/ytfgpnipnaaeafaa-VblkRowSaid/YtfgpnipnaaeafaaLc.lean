/- Lemmas for the proofs of this seat: no statement of the seat is claimed here. -/
import Derived.ProofKit
import Derived.OpenShut
import Derived.ChangeSame
import Derived.Handed
import Derived.Deep.Slices
import Derived.Deep.Modes
import Derived.SizedLaws
import Derived.Test.YtfgpnipnaaeafaaKa
import Derived.Test.YtfgpnipnaaeafaaLa
import Derived.Test.YtfgpnipnaaeafaaKc
import Derived.Test.YtfgpnipnaaeafaaRows
set_option linter.all false

namespace Pw
open Go Go.ChangeShapes Go.WideShapes Go.ChangeAt Go.RowKit
section
variable {w w' : World} {P : Program} {T : TypeId → Prop}
/-- Types that hold, with each, those of its parts; whose slices have elements of some size. -/
def Kin (P : Program) (T : TypeId → Prop) : Prop := ∀ t, T t → match P.underlying t with
  | some (.slice e) => 0 < P.cellsOf e ∧ T e
  | some (.pointer e) => T e
  | some (.array _ e) => T e
  | some (.struct fs) => ∀ f ∈ fs.toList, T f.type
  | some (.map _ e) => T e
  | _ => True
def kinB (P : Program) (K : List TypeId) : Bool := K.all fun t => match P.underlying t with
  | some (.slice e) => decide (0 < P.cellsOf e) && K.contains e
  | some (.pointer e) => K.contains e
  | some (.array _ e) => K.contains e
  | some (.struct fs) => fs.toList.all fun f => K.contains f.type
  | some (.map _ e) => K.contains e
  | _ => true
theorem Kin.of {P : Program} {K : List TypeId} (h : kinB P K = true) : Kin P (· ∈ K) := fun t ht => by
  have h1 := List.all_eq_true.1 h t ht
  cases hu : P.underlying t with
  | none => trivial
  | some d =>
    rw [hu] at h1
    cases d with
    | struct fs => exact fun f hf => by have := List.all_eq_true.1 h1 f hf; simpa using this
    | slice e => simpa using h1
    | pointer e => simpa using h1
    | array n e => simpa using h1
    | map k e => simpa using h1
    | _ => trivial
theorem cell_old (ho : ∀ (b : Nat) o, w.heap[b]? = some o → w'.heap[b]? = some o) {a : Addr} {v : Value} (h : w.cell? a = some v) : w'.cell? a = some v := by
  unfold World.cell? at h ⊢
  cases hb : w.heap[a.block]? with
  | none => simp [hb] at h
  | some o => rw [ho _ _ hb]; simpa [hb] using h
theorem cells_old' (ho : ∀ (b : Nat) o, w.heap[b]? = some o → w'.heap[b]? = some o) {a : Addr} {n : Nat} {cs : List Value} (h : w.cells? 0 a n = some cs) : w'.cells? 0 a n = some cs := by
  unfold World.cells? at h ⊢
  rw [if_pos (Nat.zero_le _)] at h ⊢
  exact mapM_carry h (fun _ _ _ _ hv => cell_old ho hv)
theorem row_first (a : Addr) {n : Nat} (h : 0 < n) : MemPlace.cell a.block a.off ∈ MemPlace.row a n := by
  unfold MemPlace.row
  rw [List.mem_map]
  exact ⟨0, by simpa using h, by simp⟩
theorem trodStep_keep {H : Type} {enc : TypeId × Value → H} (ho : ∀ (b : Nat) o, w.heap[b]? = some o → w'.heap[b]? = some o) (hz : Kin P T) {sp : Nat → Bool} {r r' : TypeId → List Value → Option (DataW H × List MemPlace)}
    (hr : ∀ t cs x, T t → r t cs = some x → (∀ p ∈ x.2, sp p.block = true) → r' t cs = some x) {t : TypeId} (hT : T t) {cs : List Value} {x : DataW H × List MemPlace}
    (h : DataW.trodStep enc P w 0 (fun _ => true) true r t cs = some x) (hp : ∀ p ∈ x.2, sp p.block = true) : DataW.trodStep enc P w' 0 sp true r' t cs = some x := by
  have hk := hz t hT
  unfold DataW.trodStep at h ⊢
  split at h
  case h_1 => exact h
  case h_2 => exact h
  case h_3 => exact h
  case h_4 => exact h
  case h_5 => exact h
  case h_6 e a hte =>
    rw [hte] at hk
    simp only [Option.map_eq_some_iff, Option.bind_eq_some_iff] at h ⊢
    obtain ⟨y, ⟨cs', hc, hy⟩, rfl⟩ := h
    exact ⟨y, ⟨cs', cells_old' ho hc, hr _ _ _ hk hy fun p hp' => hp p (List.mem_append_right _ hp')⟩, rfl⟩
  case h_7 => exact h
  case h_8 e a len cap hte =>
    rw [hte] at hk
    simp only at h ⊢
    split at h
    · rename_i hc
      rw [if_pos hc]
      simp only [Option.map_eq_some_iff, Option.bind_eq_some_iff] at h ⊢
      obtain ⟨elems, he, rest, hrest, rfl⟩ := h
      rw [if_pos trivial] at hrest
      have one : ∀ (i : Nat) (y : DataW H × List MemPlace), y ∈ elems ++ rest →
          (w.cells? 0 (a.add (i * P.cellsOf e)) (P.cellsOf e)).bind (r e) = some y → (w'.cells? 0 (a.add (i * P.cellsOf e)) (P.cellsOf e)).bind (r' e) = some y := by
        intro i y hy hv
        simp only [Option.bind_eq_some_iff] at hv ⊢
        obtain ⟨cs', hc', hy'⟩ := hv
        exact ⟨cs', cells_old' ho hc', hr _ _ _ hk.2 hy' fun p hp' => hp p (List.mem_append_right _ (List.mem_flatMap.2 ⟨y, hy, hp'⟩))⟩
      refine ⟨elems, mapM_carry he (fun i y _ hy => one i y (List.mem_append_left _ hy)), rest, ?_, rfl⟩
      by_cases hs : sp a.block = true
      · rw [if_pos hs]
        exact mapM_carry hrest (fun j y _ hy => one (len + j) y (List.mem_append_right _ hy))
      · rw [if_neg hs]
        have h0 : (elems.length + rest.length) * P.cellsOf e = 0 := by
          rcases Nat.eq_zero_or_pos ((elems.length + rest.length) * P.cellsOf e) with h | h
          · exact h
          · exact absurd (hp _ (List.mem_append_left _ (row_first a h))) hs
        have h1 : rest = [] := by
          have := hk.1
          rcases Nat.mul_eq_zero.1 h0 with h2 | h2
          · exact List.eq_nil_of_length_eq_zero (by omega)
          · omega
        rw [h1]
    · cases h
  case h_9 fs hte =>
    rw [hte] at hk
    split at h
    · rename_i hc
      rw [if_pos hc]
      simp only [Option.map_eq_some_iff] at h ⊢
      obtain ⟨xs, hx, rfl⟩ := h
      exact ⟨xs, mapM_carry hx (fun f y hf hy hv => hr _ _ _ (hk f hf) hv fun p hp' => hp p (List.mem_flatMap.2 ⟨y, hy, hp'⟩)), rfl⟩
    · cases h
  case h_10 n e hte =>
    rw [hte] at hk
    split at h
    · rename_i hc
      rw [if_pos hc]
      simp only [Option.map_eq_some_iff] at h ⊢
      obtain ⟨xs, hx, rfl⟩ := h
      exact ⟨xs, mapM_carry hx (fun i y _ hy hv => hr _ _ _ hk hv fun p hp' => hp p (List.mem_flatMap.2 ⟨y, hy, hp'⟩)), rfl⟩
    · cases h
  case h_11 => exact h
  case h_12 => exact h
  case h_13 => exact h
  case h_14 k e b hte =>
    rw [hte] at hk
    have hk2 := hk
    split at h
    · rename_i es clock hb
      rw [ho _ _ hb]
      split at h
      · rename_i hc
        simp only [Option.bind_eq_some_iff] at h
        obtain ⟨entries, he, hd⟩ := h
        split at hd
        · rename_i hris
          have hx := Option.some.inj hd
          subst hx
          simp only [if_pos hc, Option.bind_eq_some_iff]
          refine ⟨entries, mapM_carry he (fun x y _ hy hv => ?_), by simp [hris]⟩
          simp only [Option.bind_eq_some_iff] at hv ⊢
          obtain ⟨key, hk, hz⟩ := hv
          refine ⟨key, hk, ?_⟩
          split at hz
          · rename_i hf
            rw [if_pos hf]
            simp only [Option.map_eq_some_iff] at hz ⊢
            obtain ⟨q, hq, rfl⟩ := hz
            exact ⟨q, hr _ _ _ hk2 hq fun p hp' => hp p (List.mem_cons_of_mem _ (List.mem_flatMap.2 ⟨_, hy, hp'⟩)), rfl⟩
          · cases hz
        · cases hd
      · cases h
    · cases h
  case h_15 => exact h
  case h_16 => exact h
  case h_17 => exact h
  case h_18 => exact h
  case h_19 => exact h
  case h_20 => exact h
  case h_21 => cases h
theorem trod_keep {H : Type} {enc : TypeId × Value → H} (ho : ∀ (b : Nat) o, w.heap[b]? = some o → w'.heap[b]? = some o) (hz : Kin P T) {sp : Nat → Bool} :
    ∀ (n : Nat) (t : TypeId) (cs : List Value) (x : DataW H × List MemPlace), T t → DataW.trod enc P w 0 (fun _ => true) true n t cs = some x → (∀ p ∈ x.2, sp p.block = true) → DataW.trod enc P w' 0 sp true n t cs = some x := by
  intro n
  induction n with
  | zero => intro t cs x _ h; simp [DataW.trod] at h
  | succ n ih =>
    intro t cs x hT h hp
    rw [DataW.trod_step] at h ⊢
    exact trodStep_keep ho hz ih hT h hp
theorem trodAll_keep {H : Type} {enc : TypeId × Value → H} (ho : ∀ (b : Nat) o, w.heap[b]? = some o → w'.heap[b]? = some o) (hz : Kin P T) {sp : Nat → Bool} :
    ∀ {ts : List TypeId} {vs : List Value} {ds : List (DataW H)} {ps : List MemPlace}, (∀ t ∈ ts, T t) → DataW.TrodAll enc P w 0 (fun _ => true) true ts vs ds ps → (∀ p ∈ ps, sp p.block = true) → DataW.TrodAll enc P w' 0 sp true ts vs ds ps
  | [], [], [], _, _, h, _ => h
  | t :: ts, _ :: _, _ :: _, _, hT, ⟨p, q, ⟨fuel, h1⟩, h2, e⟩, hp => by
    subst e
    exact ⟨p, q, ⟨fuel, trod_keep ho hz fuel _ _ _ (hT t List.mem_cons_self) h1 fun x hx => hp x (List.mem_append_left _ hx)⟩, trodAll_keep ho hz (fun t ht => hT t (List.mem_cons_of_mem _ ht)) h2 fun x hx => hp x (List.mem_append_right _ hx), rfl⟩
  | [], [], _ :: _, _, _, h, _ => h.elim
  | [], _ :: _, _, _, _, h, _ => h.elim
  | _ :: _, [], _, _, _, h, _ => h.elim
  | _ :: _, _ :: _, [], _, _, h, _ => h.elim
/-- What a law's walk gives, for the form: it returned true, and what there was is as it was. -/
theorem post_of_old {H : Type} {enc : TypeId × Value → H} {fn : Func} {s : ChangeSpec} {apart fresh handsOn again : Bool} {W W' : World} {args : Array Value} {ds gs : List (DataW H)} {before : List MemPlace} {tb : TypeId}
    (hz : Kin P T) (hT : ∀ t ∈ fn.params.toList, T t) (hb : P.underlying tb = some .bool) (hrt : fn.resultTypes = #[tb]) (hvars : s.vars = [])
    (hW : DataW.Whole enc P fn.params.toList s.vars apart W args.toList ds gs before)
    (hres : (s.fn H (ds ++ gs)).results = [.lit (.bool true)]) (hargs : (s.fn H (ds ++ gs)).args = ds) (hsv : (s.fn H (ds ++ gs)).vars = [])
    (hos : W'.os = W.os) (hout : W'.output = W.output) (ho : ∀ (b : Nat) o, W.heap[b]? = some o → W'.heap[b]? = some o) :
    s.post enc P fn apart fresh handsOn again W args (.bool true) W' := by
  have hlt := hW.lt
  have hW0 := hW
  obtain ⟨p, q, hA, hV, rfl, hfz, hnd⟩ := hW
  rw [hvars] at hV
  have hV' : gs = [] ∧ q = [] := by
    cases gs with
    | nil => exact ⟨rfl, hV⟩
    | cons g gs => exact hV.elim
  obtain ⟨rfl, rfl⟩ := hV'
  rw [List.append_nil] at hlt hfz hnd hW0
  have hrl : (Value.bool true).resultList fn.resultTypes.size = [.bool true] := by rw [hrt]; rfl
  have hR : ∀ (b : Nat) (sp : Nat → Bool) (hd : Bool), DataW.TrodAll enc P W' b sp hd fn.resultTypes.toList ((Value.bool true).resultList fn.resultTypes.size) [.lit (.bool true)] [] := fun b sp hd => by
    rw [hrl, hrt]
    exact trodAll_mk1 (shut_bool hb true)
  have hsize : W.heap.size ≤ W'.heap.size := by
    rcases Nat.lt_or_ge W'.heap.size W.heap.size with h | h
    · have h1 : W.heap[W'.heap.size]? = some W.heap[W'.heap.size] := Array.getElem?_eq_getElem h
      have h2 := ho _ _ h1
      rw [Array.getElem?_eq_none (Nat.le_refl _)] at h2; cases h2
    · exact h
  have hfz' : ∀ b off, b < W.heap.size → W'.frozen? ⟨b, off, none⟩ = W.frozen? ⟨b, off, none⟩ := fun b off hb => by
    have h1 : W.heap[b]? = some W.heap[b] := Array.getElem?_eq_getElem hb
    unfold World.frozen?
    rw [h1, ho _ _ h1]
  have hold : ∀ x ∈ p, (fun b => decide (b < W.heap.size)) x.block = true := fun x hx => by simpa using hlt x hx
  have hA1 := trodAll_keep (sp := fun b => decide (b < W.heap.size)) ho hz hT hA hold
  have hA2 := trodAll_keep (sp := fun _ => true) ho hz hT hA (fun _ _ => rfl)
  refine ⟨ds, [], p, [], p, [], hW0, by rw [hres]; exact hR _ _ _, by rw [hargs]; exact hA1, by rw [hvars, hsv]; rfl, ⟨hos, hout, fun i hi => ?_⟩, fun _ => ⟨ok_one hrt rfl (okWide_bool_mk hb true), .lit (.bool true) :: ds, [], p, ⟨p, [], ?_, by rw [hvars]; rfl, by simp, fun b off hx => ?_, fun ha => hnd ha⟩, fun x hx _ => hx⟩⟩
  · have h1 : W.heap[i]? = some W.heap[i] := Array.getElem?_eq_getElem hi
    rw [h1, ho _ _ h1]
    cases W.heap[i] with
    | cells c t fr => exact ⟨rfl, rfl, rfl, fun _ _ => rfl⟩
    | map es clock => exact .inr ⟨rfl, rfl⟩
    | _ => rfl
  · have := trodAll_append hA2 (hR 0 (fun _ => true) true)
    rw [List.nil_append] at this
    exact this
  · rw [hfz' b off (hlt _ hx)]
    exact hfz b off hx
/-- Lists out of what is known at each place. -/
theorem list_of {α : Type} {Q : Nat → α → Prop} : ∀ n, (∀ i, i < n → ∃ x, Q i x) → ∃ l : List α, l.length = n ∧ ∀ i x, l[i]? = some x → Q i x
  | 0, _ => ⟨[], rfl, fun i x h => by simp at h⟩
  | n + 1, h => by
    obtain ⟨l, hl, hq⟩ := list_of n fun i hi => h i (by omega)
    obtain ⟨x, hx⟩ := h n (by omega)
    refine ⟨l ++ [x], by simp [hl], fun i y hy => ?_⟩
    rcases Nat.lt_or_ge i n with h1 | h1
    · rw [List.getElem?_append_left (by omega)] at hy
      exact hq i y hy
    · rw [List.getElem?_append_right (by omega), hl] at hy
      have : i - n = 0 := by
        rcases Nat.eq_zero_or_pos (i - n) with h2 | h2
        · exact h2
        · rw [List.getElem?_eq_none (by simp; omega)] at hy; cases hy
      rw [this] at hy
      simp at hy
      obtain rfl : i = n := by omega
      rw [← hy]; exact hx
theorem mapM_len {α β : Type} {f : α → Option β} : ∀ {l : List α} {r : List β}, l.mapM f = some r → r.length = l.length
  | [], r, h => by simp at h; subst h; rfl
  | x :: l, r, h => by
    rw [List.mapM_cons] at h
    cases hx : f x with
    | none => simp [hx] at h
    | some y =>
      cases hr : l.mapM f with
      | none => simp [hx, hr] at h
      | some r' =>
        simp [hx, hr] at h
        subst h
        simp [mapM_len hr]
theorem mapM_get {α β : Type} {f : α → Option β} : ∀ {l : List α} {r : List β}, l.mapM f = some r → ∀ (i : Nat) (a : α) (b : β), l[i]? = some a → r[i]? = some b → f a = some b
  | [], r, h, i, a, b, ha, _ => by simp at ha
  | x :: l, r, h, i, a, b, ha, hb => by
    rw [List.mapM_cons] at h
    cases hx : f x with
    | none => simp [hx] at h
    | some y =>
      cases hr : l.mapM f with
      | none => simp [hx, hr] at h
      | some r' =>
        simp [hx, hr] at h
        subst h
        cases i with
        | zero => simp at ha hb; subst ha; subst hb; exact hx
        | succ i => exact mapM_get hr i a b (by simpa using ha) (by simpa using hb)
theorem cells_get {w : World} {a : Addr} {n : Nat} {cs : List Value} (h : w.cells? 0 a n = some cs) : cs.length = n ∧ ∀ i u, cs[i]? = some u → w.cell? (a.add i) = some u := by
  unfold World.cells? at h
  rw [if_pos (Nat.zero_le _)] at h
  have hl := mapM_len h
  rw [List.length_range] at hl
  refine ⟨hl, fun i u hu => ?_⟩
  have hi : i < n := by
    rcases Nat.lt_or_ge i n with h1 | h1
    · exact h1
    · rw [List.getElem?_eq_none (by omega)] at hu; cases hu
  exact mapM_get h i i u (by simp [hi]) hu
theorem cell_spot {w : World} {a : Addr} {u : Value} (h : w.cell? a = some u) : a.spot = none := by
  unfold World.cell? at h
  split at h
  · split at h
    · cases h
    · rename_i hs; simpa using hs
  · cases h
theorem weightsAll_mem {H : Type} {e : TypeId} {d : DataW H} {n : Nat} (hn : n ∈ d.weights P e) : ∀ {l : List (DataW H)}, d ∈ l → n ∈ DataW.weightsAll P e l
  | [], h => by cases h
  | x :: l, h => by
    simp only [DataW.weightsAll, List.mem_append]
    rcases List.mem_cons.1 h with rfl | h
    · exact .inl hn
    · exact .inr (weightsAll_mem hn h)
/-- A slice that came in, its elements read by f. -/
theorem inp_of_trod {H : Type} {enc : TypeId × Value → H} {W : World} {sp : Nat → Bool} {held : Bool} {r : Reach} {b0 : Nat} {t e : TypeId} {sz : Nat} {v : Value} {d : DataW H} {ps : List MemPlace} (ht : P.underlying t = some (.slice e)) (hc : P.cellsOf e = sz + 1) (hby : 0 < P.bytesOf e) (hwt : ∀ n ∈ d.weights P t, n ≤ reachBytes)
    {α : Type} (f : α → List Value) (hf : ∀ x, (f x).length = sz + 1) (ok : α → Prop) (helem : ∀ n cs x, DataW.trod enc P W 0 sp held n e cs = some x → cs.length = sz + 1 → (∀ y ∈ x.1.weights P e, y ≤ reachBytes) → ∃ a, ok a ∧ cs = f a)
    (hval : Value.okWide P W r b0 t v) (h : DataW.Trod enc P W 0 sp held t v d ps) : ∃ l : List α, Inp W.heap (sz + 1) l.length v (l.flatMap f) ∧ ∀ a ∈ l, ok a := by
  obtain ⟨a0, len0, cap0, rfl⟩ := okWide_slice ht hval
  obtain ⟨fuel, hfu⟩ := h
  rcases Go.Deep.open_slice ht hfu with ⟨hcs, _⟩ | ⟨a, len, cap, m, n, D, Pl, hcs, _, hle, hmax, hm, hx, hel⟩
  · simp only [Value.cells, List.cons.injEq, Value.slice.injEq, and_true] at hcs
    obtain ⟨rfl, rfl, rfl⟩ := hcs
    exact ⟨[], ⟨by simp, by simp, none, 0, rfl, .inl rfl⟩, by simp⟩
  · simp only [Value.cells, List.cons.injEq, Value.slice.injEq, and_true] at hcs
    obtain ⟨rfl, rfl, rfl⟩ := hcs
    have hlm : len0 ≤ m := by rw [hm]; split <;> omega
    obtain rfl : d = _ := congrArg Prod.fst hx
    have hw1 : len0 ≤ reachBytes := by
      have h1 := hwt _ (by simp only [DataW.weights, ht]; exact List.mem_cons_self)
      simp only [List.length_map, List.length_range] at h1
      have h2 := Nat.le_mul_of_pos_right (len0 + (m - len0)) hby
      omega
    have hwe : ∀ i, i < len0 → ∀ y ∈ (D i).weights P e, y ≤ reachBytes := fun i hi y hy =>
      hwt y (by simp only [DataW.weights, ht]; exact List.mem_cons_of_mem _ (List.mem_append_left _ (weightsAll_mem hy (List.mem_map.2 ⟨i, by simpa using hi, rfl⟩))))
    obtain ⟨l, hl, hq⟩ := list_of (α := α) (Q := fun i x => ok x ∧ W.cells? 0 (a.add (i * (sz + 1))) (sz + 1) = some (f x)) len0 fun i hi => by
      obtain ⟨cs', h1, h2⟩ := hel i (by omega)
      rw [hc] at h1
      obtain ⟨x, hx, rfl⟩ := helem n cs' _ h2 (cells_get h1).1 (hwe i hi)
      exact ⟨x, hx, h1⟩
    refine ⟨l, ⟨flat_len hf l, by unfold reachBytes at hw1; omega, some a, cap0, by rw [hl], ?_⟩, fun x hx => ?_⟩
    · rcases Nat.eq_zero_or_pos len0 with h0 | h0
      · exact .inl (by rw [hl]; exact h0)
      · right
        have hrd : ∀ (j : Nat) u, (l.flatMap f)[j]? = some u → W.cell? (a.add j) = some u := fun j u hu => by
          have hj : j < l.length * (sz + 1) := by
            rw [← flat_len hf l]
            rcases Nat.lt_or_ge j (l.flatMap f).length with h1 | h1
            · exact h1
            · rw [List.getElem?_eq_none h1] at hu; cases hu
          have hdm := Nat.div_add_mod j (sz + 1)
          rw [Nat.mul_comm] at hdm
          have hi : j / (sz + 1) < l.length := Nat.div_lt_of_lt_mul (by rw [Nat.mul_comm]; exact hj)
          have hmod : j % (sz + 1) < sz + 1 := Nat.mod_lt _ (by omega)
          obtain ⟨x, hx⟩ := get_some hi
          have hg := flat_get hf l (j / (sz + 1)) (j % (sz + 1)) hmod
          rw [hdm, hx] at hg
          rw [hg] at hu
          have h3 := (cells_get (hq _ _ hx).2).2 (j % (sz + 1)) u (by simpa using hu)
          rw [Addr.add_add, hdm] at h3
          exact h3
        obtain ⟨x0, hx0⟩ := get_some (l := l) (i := 0) (by omega)
        have hs : a.spot = none := by
          have h1 := flat_get hf l 0 0 (by omega)
          rw [hx0] at h1
          obtain ⟨u, hu⟩ := get_some (l := f x0) (i := 0) (by rw [hf]; omega)
          have h2 := hrd 0 u (by simpa [hu] using h1)
          have := cell_spot h2
          simpa [Addr.add] using this
        refine ⟨a.block, a.off, by cases a; simp_all, fun j u hu w hw => ?_⟩
        have h1 := hrd j u hu
        have h2 : (a.add j) = ⟨a.block, a.off + j, none⟩ := by cases a; simp_all [Addr.add]
        rw [h2] at h1
        unfold World.cell? at h1 ⊢
        rw [hw]; exact h1
    · obtain ⟨i, hi⟩ := List.mem_iff_getElem?.1 hx
      exact (hq i x hi).1
theorem open_str {H : Type} {enc : TypeId × Value → H} {W : World} {sp : Nat → Bool} {held : Bool} {r : Reach} {b0 : Nat} {t : TypeId} {v : Value} {d : DataW H} {ps : List MemPlace} (ht : P.underlying t = some .string) (hwt : ∀ n ∈ d.weights P t, n ≤ reachBytes) (hval : Value.okWide P W r b0 t v) (h : DataW.Trod enc P W 0 sp held t v d ps) : ∃ l : List UInt8, v = str l ∧ l.length ≤ 140737488351232 := by
  obtain ⟨s, rfl⟩ := okWide_string ht hval
  obtain ⟨fuel, hf⟩ := h
  obtain ⟨s', h1, h2, h3⟩ := DataW.trod_string ht hf
  simp only [Value.cells, List.cons.injEq, Value.string.injEq, and_true] at h1
  subst h1
  obtain rfl : d = _ := congrArg Prod.fst h2
  exact ⟨s.data.toList, str_of s, hwt _ (by simp [DataW.weights])⟩
theorem cell_str {H : Type} {enc : TypeId × Value → H} {W : World} {sp : Nat → Bool} {held : Bool} {t : TypeId} {fuel : Nat} {cs : List Value} {x : DataW H × List MemPlace} (ht : P.underlying t = some .string) (h : DataW.trod enc P W 0 sp held fuel t cs = some x) (hwt : ∀ n ∈ x.1.weights P t, n ≤ reachBytes) : ∃ l : List UInt8, cs = [str l] ∧ l.length ≤ 140737488351232 := by
  obtain ⟨s', h1, h2, h3⟩ := DataW.trod_string ht h
  subst h2
  exact ⟨s'.data.toList, by rw [h1, str_of], hwt _ (by simp [DataW.weights])⟩
theorem cell_u {H : Type} {enc : TypeId × Value → H} {W : World} {sp : Nat → Bool} {held : Bool} {t : TypeId} {k : IntKind} {fuel : Nat} {cs : List Value} {x : DataW H × List MemPlace} (ht : P.underlying t = some (.int k)) (h : DataW.trod enc P W 0 sp held fuel t cs = some x) : ∃ n : Int, cs = [.int k n] ∧ k.min ≤ n ∧ n ≤ k.max := by
  obtain ⟨n, h1, _, h2⟩ := DataW.trod_int ht h
  rw [Lit.wf] at h2
  simp only [Bool.and_eq_true, decide_eq_true_eq] at h2
  exact ⟨n, h1, h2.1, h2.2⟩
theorem open_int' {H : Type} {enc : TypeId × Value → H} {W : World} {base : Nat} {sp : Nat → Bool} {held : Bool} {r : Reach} {b0 : Nat} {t : TypeId} {k : IntKind} {v : Value} {d : DataW H} {ps : List MemPlace} (ht : P.underlying t = some (.int k)) (hval : Value.okWide P W r b0 t v) (h : DataW.Trod enc P W base sp held t v d ps) : ∃ n : Int, v = .int k n ∧ k.min ≤ n ∧ n ≤ k.max := by
  obtain ⟨n, h1, _, _, h2⟩ := open_int ht hval h
  rw [Lit.wf] at h2
  simp only [Bool.and_eq_true, decide_eq_true_eq] at h2
  exact ⟨n, h1, h2.1, h2.2⟩
theorem field_of {H : Type} {enc : TypeId × Value → H} {W : World} {sp : Nat → Bool} {held : Bool} {fs : Array Field} {cs : List Value} {xs : List (DataW H × List MemPlace)} {n : Nat} (hf : ∀ (i : Nat) (f : Field), fs[i]? = some f → DataW.trod enc P W 0 sp held n f.type ((cs.drop f.offset).take (P.cellsOf f.type)) = xs[i]?)
    (i ty off k : Nat) {f : Field} (h : fs[i]? = some f) (hty : f.type = ty) (hoff : f.offset = off) (hc : P.cellsOf ty = k) : DataW.trod enc P W 0 sp held n ty ((cs.drop off).take k) = xs[i]? := by
  subst hty; subst hoff; subst hc
  exact hf i f h
theorem len5 {α : Type} : ∀ {l : List α}, l.length = 5 → ∃ a b c d e, l = [a, b, c, d, e]
  | [a, b, c, d, e], _ => ⟨a, b, c, d, e, rfl⟩
/-- The walk's word, for the form. -/
theorem calls_of_sat {f : FuncId} {args : List Value} {W : World} {B : Value → List Assn → Prop} {K : Ending → World → Prop} (h : Sat P f args [old W.heap] B)
    (hB : ∀ v L' w', B v L' → SL ⟨W.os, W.tape, W.output⟩ L' w' → K (.returned v) w') : Calls P f args.toArray W K := by
  have h0 : SL ⟨W.os, W.tape, W.output⟩ ([old W.heap] ++ []) W := ⟨rfl, rfl, rfl, fun b => W.heap[b]?, fun _ => none, fun _ => .inr rfl, fun _ _ h => h, fun _ _ h => by simp at h, fun _ _ h => h, trivial⟩
  refine Calls.mono ((h ⟨W.os, W.tape, W.output⟩ [] W h0).calls (fun _ d hd => by cases hd)) ?_
  rintro e w' ⟨v, L', rfl, hb, hw⟩
  rw [List.append_nil] at hw
  exact hB v L' w' hb hw
theorem old_of_SL {c : Ctx} {h : Array Obj} {L : List Assn} {w : World} (hw : SL c L w) (hm : LMem (old h) L) : ∀ (b : Nat) o, h[b]? = some o → w.heap[b]? = some o := fun b o hb => by
  obtain ⟨f1, h1, h2⟩ := SLh.mem hm hw.2.2.2
  exact h2 b o (h1 b o hb)
end
end Pw


namespace Go.Proofs.Ytfgpnipnaaeafaa
set_option maxRecDepth 20000
open Go Pw Go.ChangeShapes Go.WideShapes Go.ChangeAt Go.RowKit
theorem own : ownKnob Try.prog.godebug = none := by kernel_rfl
theorem kin : Kin Try.prog (· ∈ [3, 4, 5, 9, 30, 59]) := Kin.of (by kernel_rfl)
theorem u_nat {a b : Int} (h : 0 ≤ a) (h2 : a ≤ b) : ∃ n : Nat, a = n ∧ (n : Int) ≤ b := ⟨a.toNat, by omega, by omega⟩
theorem gt_all {α : Type} [Inhabited α] {l : List α} {p : α → Prop} (h : ∀ t ∈ l, p t) (h0 : p default) (j : Nat) : p (gt l j) := by
  unfold gt
  rw [List.getD_eq_getElem?_getD]
  cases hj : l[j]? with
  | none => exact h0
  | some x => exact h x (List.mem_of_getElem? hj)
theorem calls_of_sato {f : FuncId} {args : List Value} {W : World} {K : Ending → World → Prop} (h : Sat Try.prog f args [old W.heap] (fun u L' => u = .bool true ∧ L' = [old W.heap]))
    (fin : ∀ (v : Value) (L' : List Assn) (w' : World), (v = .bool true ∧ L' = [old W.heap]) → SL ⟨W.os, W.tape, W.output⟩ L' w' → K (.returned v) w') : Calls Try.prog f args.toArray W K := by
  have hi : SL ⟨W.os, W.tape, W.output⟩ ([old W.heap] ++ []) W := by
    refine ⟨rfl, rfl, rfl, fun b => W.heap[b]?, fun _ => none, fun _ => .inr rfl, fun _ _ h => h, fun _ _ h => (by cases h), ?_, trivial⟩
    intro b o hb; exact hb
  refine Calls.mono ((h ⟨W.os, W.tape, W.output⟩ [] W hi).calls (fun _ d hd => by cases hd)) ?_
  rintro e w' ⟨v, L', rfl, hv, hw⟩
  rw [List.append_nil] at hw
  exact fin v L' w' hv hw
end Go.Proofs.Ytfgpnipnaaeafaa

