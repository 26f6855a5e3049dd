/- Lemmas for the proofs of this seat: no statement of the seat is claimed here. -/
import Derived.Test.YtcidilijlgaohaaDoorPw
set_option linter.all false
namespace Pw
open Go

/-! # The walker by instances -/
/-- An operation with its operands' values. -/
inductive RO where
  | move (v : Value) | assign (v : Value) | pick (c a b : Value) | alloc (t : TypeId) | box (t : TypeId) (v : Value)
  | build (t : TypeId) (vs : List (Nat × Value)) | buildSlice (t : TypeId) (n : Nat) (vs : List (Nat × Value))
  | load (t : TypeId) (a : Value) | store (t : TypeId) (a v : Value) | nilCheck (v : Value)
  | bin (o : BinOp) (t : TypeId) (x y : Value) | un (o : UnOp) (t : TypeId) (x : Value) | conv (a b : TypeId) (x : Value)
  | mkFunc (fn : Fn) (xs ys : List Value) | mkMap (t : TypeId) | mkSlice (t : TypeId) (n m : Value)
  | slice (t : TypeId) (x : Value) (lo hi mx : Option Value)
  | fieldAddr (t : TypeId) (x : Value) (k : Nat) | field (t : TypeId) (x : Value) (k : Nat)
  | indexAddr (t : TypeId) (x i : Value) | index (t : TypeId) (x i : Value)
  | lookup (t : TypeId) (m k : Value) (ok : Bool) | update (t : TypeId) (m k v : Value)
  | extract (x : Value) (k : Nat) | call (f : Value) (xs : List Value) | builtin (b : Builtin) (xs : List Value) (ts : List TypeId)
  | s2a (t : TypeId) (x : Value)
  | other

/-- The value, brought to its head. -/
def fo {α : Type} (v : Value) (k : Value → α) : α :=
  match v with
  | .bool b => k (.bool b) | .int n i => k (.int n i) | .float a b => k (.float a b) | .complex a b d => k (.complex a b d) | .string s => k (.string s)
  | .pointer a => k (.pointer a) | .slice a n m => k (.slice a n m) | .map r => k (.map r) | .chan r => k (.chan r) | .func f a b => k (.func f a b)
  | .nilFunc => k .nilFunc | .iface t v => k (.iface t v) | .nilIface => k .nilIface | .agg cs => k (.agg cs) | .tuple vs => k (.tuple vs)
theorem fo_eq {α : Type} (v : Value) (k : Value → α) : fo v k = k v := by cases v <;> rfl
def foL {α : Type} (E : Env) : List Operand → (List Value → α) → α
  | [], k => k []
  | x :: xs, k => fo (E.eval x) fun v => foL E xs fun vs => k (v :: vs)
theorem foL_eq {α : Type} (E : Env) : ∀ (xs : List Operand) (k : List Value → α), foL E xs k = k (xs.map E.eval)
  | [], _ => rfl
  | x :: xs, k => by simp only [foL, fo_eq, foL_eq E xs, List.map_cons]
def foP {α : Type} (E : Env) : List (Nat × Operand) → (List (Nat × Value) → α) → α
  | [], k => k []
  | (i, x) :: xs, k => fo (E.eval x) fun v => foP E xs fun vs => k ((i, v) :: vs)
theorem foP_eq {α : Type} (E : Env) : ∀ (xs : List (Nat × Operand)) (k : List (Nat × Value) → α), foP E xs k = k (xs.map fun p => (p.1, E.eval p.2))
  | [], _ => rfl
  | (i, x) :: xs, k => by simp only [foP, fo_eq, foP_eq E xs, List.map_cons]
def foO {α : Type} (E : Env) : Option Operand → (Option Value → α) → α
  | none, k => k none
  | some x, k => fo (E.eval x) fun v => k (some v)
theorem foO_eq {α : Type} (E : Env) (x : Option Operand) (k : Option Value → α) : foO E x k = k (x.map E.eval) := by cases x <;> simp [foO, fo_eq]

def rsv (E : Env) : Op → RO
  | .move x => fo (E.eval x) .move
  | .assign x => fo (E.eval x) .assign
  | .pick c a b => fo (E.eval c) fun c => fo (E.eval a) fun a => fo (E.eval b) fun b => .pick c a b
  | .alloc t => .alloc t
  | .box t x => fo (E.eval x) fun v => .box t v
  | .build t ps => foP E ps.toList fun vs => .build t vs
  | .buildSlice t n ps => foP E ps.toList fun vs => .buildSlice t n vs
  | .load t x => fo (E.eval x) fun v => .load t v
  | .store t a x => fo (E.eval a) fun a => fo (E.eval x) fun v => .store t a v
  | .nilCheck x => fo (E.eval x) .nilCheck
  | .binOp o t x y _ => fo (E.eval x) fun a => fo (E.eval y) fun b => .bin o t a b
  | .unOp o t x => fo (E.eval x) fun a => .un o t a
  | .convert a b x => fo (E.eval x) fun v => .conv a b v
  | .makeFunc fn xs ys => foL E xs.toList fun us => foL E ys.toList fun vs => .mkFunc fn us vs
  | .makeMap t none => .mkMap t
  | .makeSlice t n m => fo (E.eval n) fun a => fo (E.eval m) fun b => .mkSlice t a b
  | .slice t x lo hi mx => fo (E.eval x) fun a => foO E lo fun l => foO E hi fun h => foO E mx fun m => .slice t a l h m
  | .fieldAddr t x k => fo (E.eval x) fun v => .fieldAddr t v k
  | .field t x k => fo (E.eval x) fun v => .field t v k
  | .indexAddr t x i => fo (E.eval x) fun a => fo (E.eval i) fun b => .indexAddr t a b
  | .index t x i => fo (E.eval x) fun a => fo (E.eval i) fun b => .index t a b
  | .lookup t m k ok => fo (E.eval m) fun a => fo (E.eval k) fun b => .lookup t a b ok
  | .mapUpdate t m k x => fo (E.eval m) fun a => fo (E.eval k) fun b => fo (E.eval x) fun v => .update t a b v
  | .extract x k => fo (E.eval x) fun v => .extract v k
  | .call ⟨.value f, xs, _⟩ => fo (E.eval f) fun g => foL E xs.toList fun vs => .call g vs
  | .call ⟨.builtin b, xs, ts⟩ => foL E xs.toList fun vs => .builtin b vs ts.toList
  | .sliceToArrayPointer t x => fo (E.eval x) fun v => .s2a t v
  | _ => .other

/-- What an operation comes to. -/
inductive Rs (E : Env) : Op → RO → Prop
  | move {x : Operand} {v : Value} (h : E.eval x = v) : Rs E (.move x) (.move v)
  | assign {x : Operand} {v : Value} (h : E.eval x = v) : Rs E (.assign x) (.assign v)
  | pick {x y z : Operand} {c a b : Value} (h1 : E.eval x = c) (h2 : E.eval y = a) (h3 : E.eval z = b) : Rs E (.pick x y z) (.pick c a b)
  | alloc {t : TypeId} : Rs E (.alloc t) (.alloc t)
  | box {t : TypeId} {x : Operand} {v : Value} (h : E.eval x = v) : Rs E (.box t x) (.box t v)
  | build {t : TypeId} {ps : List (Nat × Operand)} {vs : List (Nat × Value)} (h : evP E ps vs) : Rs E (.build t ps.toArray) (.build t vs)
  | buildSlice {t : TypeId} {n : Nat} {ps : List (Nat × Operand)} {vs : List (Nat × Value)} (h : evP E ps vs) : Rs E (.buildSlice t n ps.toArray) (.buildSlice t n vs)
  | load {t : TypeId} {x : Operand} {v : Value} (h : E.eval x = v) : Rs E (.load t x) (.load t v)
  | store {t : TypeId} {x y : Operand} {a v : Value} (h1 : E.eval x = a) (h2 : E.eval y = v) : Rs E (.store t x y) (.store t a v)
  | nilCheck {x : Operand} {v : Value} (h : E.eval x = v) : Rs E (.nilCheck x) (.nilCheck v)
  | bin {o : BinOp} {t t' : TypeId} {x y : Operand} {a b : Value} (h1 : E.eval x = a) (h2 : E.eval y = b) : Rs E (.binOp o t x y t') (.bin o t a b)
  | un {o : UnOp} {t : TypeId} {x : Operand} {a : Value} (h : E.eval x = a) : Rs E (.unOp o t x) (.un o t a)
  | conv {a b : TypeId} {x : Operand} {v : Value} (h : E.eval x = v) : Rs E (.convert a b x) (.conv a b v)
  | mkFunc {fn : Fn} {xs ys : List Operand} {us vs : List Value} (h1 : evL E xs us) (h2 : evL E ys vs) : Rs E (.makeFunc fn xs.toArray ys.toArray) (.mkFunc fn us vs)
  | mkMap {t : TypeId} : Rs E (.makeMap t none) (.mkMap t)
  | mkSlice {t : TypeId} {x y : Operand} {a b : Value} (h1 : E.eval x = a) (h2 : E.eval y = b) : Rs E (.makeSlice t x y) (.mkSlice t a b)
  | slice {t : TypeId} {x : Operand} {lo hi mx : Option Operand} {a : Value} {l h m : Option Value} (h1 : E.eval x = a) (h2 : lo.map E.eval = l) (h3 : hi.map E.eval = h) (h4 : mx.map E.eval = m) : Rs E (.slice t x lo hi mx) (.slice t a l h m)
  | fieldAddr {t : TypeId} {x : Operand} {v : Value} {k : Nat} (h : E.eval x = v) : Rs E (.fieldAddr t x k) (.fieldAddr t v k)
  | field {t : TypeId} {x : Operand} {v : Value} {k : Nat} (h : E.eval x = v) : Rs E (.field t x k) (.field t v k)
  | indexAddr {t : TypeId} {x y : Operand} {a b : Value} (h1 : E.eval x = a) (h2 : E.eval y = b) : Rs E (.indexAddr t x y) (.indexAddr t a b)
  | index {t : TypeId} {x y : Operand} {a b : Value} (h1 : E.eval x = a) (h2 : E.eval y = b) : Rs E (.index t x y) (.index t a b)
  | lookup {t : TypeId} {x y : Operand} {a b : Value} {ok : Bool} (h1 : E.eval x = a) (h2 : E.eval y = b) : Rs E (.lookup t x y ok) (.lookup t a b ok)
  | update {t : TypeId} {x y z : Operand} {a b v : Value} (h1 : E.eval x = a) (h2 : E.eval y = b) (h3 : E.eval z = v) : Rs E (.mapUpdate t x y z) (.update t a b v)
  | extract {x : Operand} {v : Value} {k : Nat} (h : E.eval x = v) : Rs E (.extract x k) (.extract v k)
  | call {f : Operand} {xs : List Operand} {ats : Array TypeId} {g : Value} {vs : List Value} (h1 : E.eval f = g) (h2 : evL E xs vs) : Rs E (.call ⟨.value f, xs.toArray, ats⟩) (.call g vs)
  | builtin {b : Builtin} {xs : List Operand} {ts : List TypeId} {vs : List Value} (h : evL E xs vs) : Rs E (.call ⟨.builtin b, xs.toArray, ts.toArray⟩) (.builtin b vs ts)
  | s2a {t : TypeId} {x : Operand} {v : Value} (h : E.eval x = v) : Rs E (.sliceToArrayPointer t x) (.s2a t v)
  | other {o : Op} : Rs E o .other

theorem evL.of (E : Env) : ∀ xs : List Operand, evL E xs (xs.map E.eval)
  | [] => trivial
  | _ :: xs => ⟨rfl, evL.of E xs⟩
theorem evP.of (E : Env) : ∀ xs : List (Nat × Operand), evP E xs (xs.map fun p => (p.1, E.eval p.2))
  | [] => trivial
  | _ :: xs => ⟨rfl, rfl, evP.of E xs⟩
theorem rsv_ok {E : Env} {op : Op} {ro : RO} (h : rsv E op = ro) : Rs E op ro := by
  subst h
  cases op with
  | build t ps => simp only [rsv, foP_eq]; exact Rs.build (ps := ps.toList) (evP.of E _)
  | buildSlice t n ps => simp only [rsv, foP_eq]; exact Rs.buildSlice (ps := ps.toList) (evP.of E _)
  | makeFunc fn xs ys => simp only [rsv, foL_eq]; exact Rs.mkFunc (xs := xs.toList) (ys := ys.toList) (evL.of E _) (evL.of E _)
  | makeMap t r => cases r with | none => exact .mkMap | some x => exact .other
  | slice t x lo hi mx => simp only [rsv, fo_eq, foO_eq]; exact .slice rfl rfl rfl rfl
  | call cl =>
    obtain ⟨ce, xs, ts⟩ := cl
    cases ce with
    | value f => simp only [rsv, fo_eq, foL_eq]; exact Rs.call (xs := xs.toList) rfl (evL.of E _)
    | builtin b => simp only [rsv, foL_eq]; exact Rs.builtin (xs := xs.toList) (ts := ts.toList) (evL.of E _)
    | invoke _ _ => exact .other
  | _ => first | exact .other | (simp only [rsv, fo_eq]; constructor <;> rfl)

/-! ## The classes -/
/-- It needs no memory. -/
class Pu (P : Program) (ro : RO) (W : outParam ((Value → Prop) → Prop)) : Prop where
  go : ∀ (E : Env) (d : Option Tmp) (op : Op) (ty : TypeId) (pos : String) (af : Array Edge) (g : Option (Nat × Bool)), Rs E op ro → ∀ k : Value → Prop, W k → ∃ v, DP P E ⟨d, op, ty, pos, af, g⟩ v ∧ k v
/-- It reads at most. -/
class Re (P : Program) (c : Ctx) (L : List Assn) (ro : RO) (W : outParam ((Value → Prop) → Prop)) : Prop where
  go : ∀ (E : Env) (d : Option Tmp) (op : Op) (ty : TypeId) (pos : String) (af : Array Edge) (g : Option (Nat × Bool)), Rs E op ro → ∀ k : Value → Prop, W k → ∃ v, D P c L E ⟨d, op, ty, pos, af, g⟩ v ∧ k v
/-- Any. -/
class St (P : Program) (c : Ctx) (L : List Assn) (ro : RO) (W : outParam ((Value → List Assn → Prop) → Prop)) : Prop where
  go : ∀ (r : Rd) (E : Env) (d : Option Tmp) (op : Op) (ty : TypeId) (pos : String) (af : Array Edge) (g : Option (Nat × Bool)), Rs E op ro → ∀ k : Value → List Assn → Prop, W k → N P r c L E ⟨d, op, ty, pos, af, g⟩ k

section
variable {P : Program} {r : Rd} {c : Ctx} {L : List Assn}
instance (priority := 900) Re.ofPu {ro : RO} {W : (Value → Prop) → Prop} [h : Pu P ro W] : Re P c L ro W :=
  ⟨fun E d op ty pos af g hr k hk => let ⟨v, h1, h2⟩ := h.go E d op ty pos af g hr k hk; ⟨v, h1.d, h2⟩⟩
instance (priority := 900) St.ofRe {ro : RO} {W : (Value → Prop) → Prop} [h : Re P c L ro W] : St P c L ro (fun k => W fun v => k v L) :=
  ⟨fun r E d op ty pos af g hr k hk => let ⟨v, h1, h2⟩ := h.go E d op ty pos af g hr (fun v => k v L) hk; N.imp h1.n (fun v' L' ⟨e1, e2⟩ => by subst e1; subst e2; exact h2)⟩

section
variable {Q : Exit → Env → Rd → World → Prop} {nt : Nat} {l : List (Nat × Value)} {gb : Nat → Value} {ops : Array Oper} {rest : List Oper} {ds : Nat} {op : Op} {ty : TypeId} {pos : String} {af : Array Edge} {ro : RO} {W : (Value → List Assn → Prop) → Prop}
theorem TO.s (hr : rsv ⟨nt, l, gb⟩ op = ro) [h : St P c L ro W] (k : W (fun v L' => TO P r c L' ops Q rest ⟨nt, (ds, v) :: l, gb⟩)) : TO P r c L ops Q (⟨some ds, op, ty, pos, af, none⟩ :: rest) ⟨nt, l, gb⟩ :=
  TO.n (h.go r _ _ _ _ _ _ _ (rsv_ok hr) _ k) fun _ _ hk => hk
theorem TO.s0 (hr : rsv ⟨nt, l, gb⟩ op = ro) [h : St P c L ro W] (k : W (fun _ L' => TO P r c L' ops Q rest ⟨nt, l, gb⟩)) : TO P r c L ops Q (⟨none, op, ty, pos, af, none⟩ :: rest) ⟨nt, l, gb⟩ :=
  TO.n0 (h.go r _ _ _ _ _ _ _ (rsv_ok hr) _ k) fun _ _ hk => hk
/-- A guard that says yes, no, or is not known. -/
theorem TO.gy {j : Nat} {want : Bool} (hy : Env.yl ⟨nt, l, gb⟩ ops j = some want) (hr : rsv ⟨nt, l, gb⟩ op = ro) [h : St P c L ro W] (k : W (fun v L' => TO P r c L' ops Q rest ⟨nt, (ds, v) :: l, gb⟩)) : TO P r c L ops Q (⟨some ds, op, ty, pos, af, some (j, want)⟩ :: rest) ⟨nt, l, gb⟩ :=
  TO.on hy (h.go r _ _ _ _ _ _ _ (rsv_ok hr) _ k) fun _ _ hk => hk
theorem Env.put_same (t : Nat) (v : Value) (h : Env.get ⟨nt, l, gb⟩ t = v) : (⟨nt, l, gb⟩ : Env).act = (⟨nt, (t, v) :: l, gb⟩ : Env).act := by
  unfold Env.act
  congr 1
  apply Array.ext
  · simp
  · intro i h1 h2
    simp only [Array.size_ofFn] at h1
    simp only [Array.getElem_ofFn, look]
    cases hh : Nat.beq t i with
    | false => rfl
    | true =>
      have e := Nat.eq_of_beq_eq_true hh
      subst e
      unfold Env.get at h
      have hb : Nat.ble nt t = false := by
        cases h3 : Nat.ble nt t with
        | false => rfl
        | true => exact absurd (Nat.le_of_ble_eq_true h3) (by omega)
      simpa [hb] using h
/-- The guard's slot is asked. -/
theorem TO.gs {t : Nat} {b : Bool} {o : Oper} {j : Nat} {want : Bool} (hg : o.guard = some (j, want)) (ht : nthDst ops.toList j = some t) (hv : Env.get ⟨nt, l, gb⟩ t = .bool b)
    (h1 : b = true → TO P r c L ops Q (o :: rest) ⟨nt, (t, .bool true) :: l, gb⟩) (h2 : b = false → TO P r c L ops Q (o :: rest) ⟨nt, (t, .bool false) :: l, gb⟩) : TO P r c L ops Q (o :: rest) ⟨nt, l, gb⟩ := by
  unfold TO
  intro w hw
  cases b with
  | true => rw [Env.acd_congr (Env.put_same t _ hv) r]; have := h1 rfl; unfold TO at this; exact this w hw
  | false => rw [Env.acd_congr (Env.put_same t _ hv) r]; have := h2 rfl; unfold TO at this; exact this w hw
theorem TO.gd {t : Nat} {p : Prop} {inst : Decidable p} {o : Oper} {j : Nat} {want : Bool} (hg : o.guard = some (j, want)) (ht : nthDst ops.toList j = some t) (hv : Env.get ⟨nt, l, gb⟩ t = .bool (@decide p inst))
    (h1 : p → TO P r c L ops Q (o :: rest) ⟨nt, (t, .bool true) :: l, gb⟩) (h2 : ¬ p → TO P r c L ops Q (o :: rest) ⟨nt, (t, .bool false) :: l, gb⟩) : TO P r c L ops Q (o :: rest) ⟨nt, l, gb⟩ :=
  TO.gs hg ht hv (fun h => h1 (of_decide_eq_true h)) (fun h => h2 (of_decide_eq_false h))
end
end
end Pw
