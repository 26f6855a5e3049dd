/- Lemmas for the proofs of this seat: no statement of the seat is claimed here. -/
import Derived.Test.YtfgpnipnaaeafaaKa
set_option linter.all false

namespace Pw
open Go

/-! # The walker by instances -/
/-- An operation with its operands' values. -/
inductive RO where
  | move (v : Value) | assign (v : Value) | pick (c a b : Value) | alloc (t : TypeId) | box (t : TypeId) (v : Value)
  | build (t : TypeId) (vs : List (Nat × Value)) | buildSlice (t : TypeId) (n : Nat) (vs : List (Nat × Value))
  | load (t : TypeId) (a : Value) | store (t : TypeId) (a v : Value) | nilCheck (v : Value)
  | bin (o : BinOp) (t : TypeId) (x y : Value) | un (o : UnOp) (t : TypeId) (x : Value) | conv (a b : TypeId) (x : Value)
  | mkFunc (fn : Fn) (xs ys : List Value) | mkMap (t : TypeId) | mkSlice (t : TypeId) (n m : Value)
  | slice (t : TypeId) (x : Value) (lo hi mx : Option Value)
  | fieldAddr (t : TypeId) (x : Value) (k : Nat) | field (t : TypeId) (x : Value) (k : Nat)
  | indexAddr (t : TypeId) (x i : Value) | index (t : TypeId) (x i : Value)
  | lookup (t : TypeId) (m k : Value) (ok : Bool) | update (t : TypeId) (m k v : Value)
  | extract (x : Value) (k : Nat) | call (f : Value) (xs : List Value) | builtin (b : Builtin) (xs : List Value) (ts : List TypeId)
  | s2a (t : TypeId) (x : Value)
  | range (t : TypeId) (x : Value) | next (x : Value) (s : Bool) | entry (x : Value)
  | other

/-- The value, brought to its head. -/
def fo {α : Type} (v : Value) (k : Value → α) : α :=
  match v with
  | .bool b => k (.bool b) | .int n i => k (.int n i) | .float a b => k (.float a b) | .complex a b d => k (.complex a b d) | .string s => k (.string s)
  | .pointer a => k (.pointer a) | .slice a n m => k (.slice a n m) | .map r => k (.map r) | .chan r => k (.chan r) | .func f a b => k (.func f a b)
  | .nilFunc => k .nilFunc | .iface t v => k (.iface t v) | .nilIface => k .nilIface | .agg cs => k (.agg cs) | .tuple vs => k (.tuple vs)
theorem fo_eq {α : Type} (v : Value) (k : Value → α) : fo v k = k v := by cases v <;> rfl
def foL {α : Type} (E : Env) : List Operand → (List Value → α) → α
  | [], k => k []
  | x :: xs, k => fo (E.eval x) fun v => foL E xs fun vs => k (v :: vs)
theorem foL_eq {α : Type} (E : Env) : ∀ (xs : List Operand) (k : List Value → α), foL E xs k = k (xs.map E.eval)
  | [], _ => rfl
  | x :: xs, k => by simp only [foL, fo_eq, foL_eq E xs, List.map_cons]
def foP {α : Type} (E : Env) : List (Nat × Operand) → (List (Nat × Value) → α) → α
  | [], k => k []
  | (i, x) :: xs, k => fo (E.eval x) fun v => foP E xs fun vs => k ((i, v) :: vs)
theorem foP_eq {α : Type} (E : Env) : ∀ (xs : List (Nat × Operand)) (k : List (Nat × Value) → α), foP E xs k = k (xs.map fun p => (p.1, E.eval p.2))
  | [], _ => rfl
  | (i, x) :: xs, k => by simp only [foP, fo_eq, foP_eq E xs, List.map_cons]
def foO {α : Type} (E : Env) : Option Operand → (Option Value → α) → α
  | none, k => k none
  | some x, k => fo (E.eval x) fun v => k (some v)
theorem foO_eq {α : Type} (E : Env) (x : Option Operand) (k : Option Value → α) : foO E x k = k (x.map E.eval) := by cases x <;> simp [foO, fo_eq]

def rsv (E : Env) : Op → RO
  | .move x => fo (E.eval x) .move
  | .assign x => fo (E.eval x) .assign
  | .pick c a b => fo (E.eval c) fun c => fo (E.eval a) fun a => fo (E.eval b) fun b => .pick c a b
  | .alloc t => .alloc t
  | .box t x => fo (E.eval x) fun v => .box t v
  | .build t ps => foP E ps.toList fun vs => .build t vs
  | .buildSlice t n ps => foP E ps.toList fun vs => .buildSlice t n vs
  | .load t x => fo (E.eval x) fun v => .load t v
  | .store t a x => fo (E.eval a) fun a => fo (E.eval x) fun v => .store t a v
  | .nilCheck x => fo (E.eval x) .nilCheck
  | .binOp o t x y _ => fo (E.eval x) fun a => fo (E.eval y) fun b => .bin o t a b
  | .unOp o t x => fo (E.eval x) fun a => .un o t a
  | .convert a b x => fo (E.eval x) fun v => .conv a b v
  | .makeFunc fn xs ys => foL E xs.toList fun us => foL E ys.toList fun vs => .mkFunc fn us vs
  | .makeMap t none => .mkMap t
  | .makeSlice t n m => fo (E.eval n) fun a => fo (E.eval m) fun b => .mkSlice t a b
  | .slice t x lo hi mx => fo (E.eval x) fun a => foO E lo fun l => foO E hi fun h => foO E mx fun m => .slice t a l h m
  | .fieldAddr t x k => fo (E.eval x) fun v => .fieldAddr t v k
  | .field t x k => fo (E.eval x) fun v => .field t v k
  | .indexAddr t x i => fo (E.eval x) fun a => fo (E.eval i) fun b => .indexAddr t a b
  | .index t x i => fo (E.eval x) fun a => fo (E.eval i) fun b => .index t a b
  | .lookup t m k ok => fo (E.eval m) fun a => fo (E.eval k) fun b => .lookup t a b ok
  | .mapUpdate t m k x => fo (E.eval m) fun a => fo (E.eval k) fun b => fo (E.eval x) fun v => .update t a b v
  | .extract x k => fo (E.eval x) fun v => .extract v k
  | .call ⟨.value f, xs, _⟩ => fo (E.eval f) fun g => foL E xs.toList fun vs => .call g vs
  | .call ⟨.builtin b, xs, ts⟩ => foL E xs.toList fun vs => .builtin b vs ts.toList
  | .sliceToArrayPointer t x => fo (E.eval x) fun v => .s2a t v
  | .range t x => fo (E.eval x) fun v => .range t v
  | .next x s => fo (E.eval x) fun v => .next v s
  | .entry x => fo (E.eval x) .entry
  | _ => .other

/-- What an operation comes to. -/
inductive Rs (E : Env) : Op → RO → Prop
  | move {x : Operand} {v : Value} (h : E.eval x = v) : Rs E (.move x) (.move v)
  | assign {x : Operand} {v : Value} (h : E.eval x = v) : Rs E (.assign x) (.assign v)
  | pick {x y z : Operand} {c a b : Value} (h1 : E.eval x = c) (h2 : E.eval y = a) (h3 : E.eval z = b) : Rs E (.pick x y z) (.pick c a b)
  | alloc {t : TypeId} : Rs E (.alloc t) (.alloc t)
  | box {t : TypeId} {x : Operand} {v : Value} (h : E.eval x = v) : Rs E (.box t x) (.box t v)
  | build {t : TypeId} {ps : List (Nat × Operand)} {vs : List (Nat × Value)} (h : evP E ps vs) : Rs E (.build t ps.toArray) (.build t vs)
  | buildSlice {t : TypeId} {n : Nat} {ps : List (Nat × Operand)} {vs : List (Nat × Value)} (h : evP E ps vs) : Rs E (.buildSlice t n ps.toArray) (.buildSlice t n vs)
  | load {t : TypeId} {x : Operand} {v : Value} (h : E.eval x = v) : Rs E (.load t x) (.load t v)
  | store {t : TypeId} {x y : Operand} {a v : Value} (h1 : E.eval x = a) (h2 : E.eval y = v) : Rs E (.store t x y) (.store t a v)
  | nilCheck {x : Operand} {v : Value} (h : E.eval x = v) : Rs E (.nilCheck x) (.nilCheck v)
  | bin {o : BinOp} {t t' : TypeId} {x y : Operand} {a b : Value} (h1 : E.eval x = a) (h2 : E.eval y = b) : Rs E (.binOp o t x y t') (.bin o t a b)
  | un {o : UnOp} {t : TypeId} {x : Operand} {a : Value} (h : E.eval x = a) : Rs E (.unOp o t x) (.un o t a)
  | conv {a b : TypeId} {x : Operand} {v : Value} (h : E.eval x = v) : Rs E (.convert a b x) (.conv a b v)
  | mkFunc {fn : Fn} {xs ys : List Operand} {us vs : List Value} (h1 : evL E xs us) (h2 : evL E ys vs) : Rs E (.makeFunc fn xs.toArray ys.toArray) (.mkFunc fn us vs)
  | mkMap {t : TypeId} : Rs E (.makeMap t none) (.mkMap t)
  | mkSlice {t : TypeId} {x y : Operand} {a b : Value} (h1 : E.eval x = a) (h2 : E.eval y = b) : Rs E (.makeSlice t x y) (.mkSlice t a b)
  | slice {t : TypeId} {x : Operand} {lo hi mx : Option Operand} {a : Value} {l h m : Option Value} (h1 : E.eval x = a) (h2 : lo.map E.eval = l) (h3 : hi.map E.eval = h) (h4 : mx.map E.eval = m) : Rs E (.slice t x lo hi mx) (.slice t a l h m)
  | fieldAddr {t : TypeId} {x : Operand} {v : Value} {k : Nat} (h : E.eval x = v) : Rs E (.fieldAddr t x k) (.fieldAddr t v k)
  | field {t : TypeId} {x : Operand} {v : Value} {k : Nat} (h : E.eval x = v) : Rs E (.field t x k) (.field t v k)
  | indexAddr {t : TypeId} {x y : Operand} {a b : Value} (h1 : E.eval x = a) (h2 : E.eval y = b) : Rs E (.indexAddr t x y) (.indexAddr t a b)
  | index {t : TypeId} {x y : Operand} {a b : Value} (h1 : E.eval x = a) (h2 : E.eval y = b) : Rs E (.index t x y) (.index t a b)
  | lookup {t : TypeId} {x y : Operand} {a b : Value} {ok : Bool} (h1 : E.eval x = a) (h2 : E.eval y = b) : Rs E (.lookup t x y ok) (.lookup t a b ok)
  | update {t : TypeId} {x y z : Operand} {a b v : Value} (h1 : E.eval x = a) (h2 : E.eval y = b) (h3 : E.eval z = v) : Rs E (.mapUpdate t x y z) (.update t a b v)
  | extract {x : Operand} {v : Value} {k : Nat} (h : E.eval x = v) : Rs E (.extract x k) (.extract v k)
  | call {f : Operand} {xs : List Operand} {ats : Array TypeId} {g : Value} {vs : List Value} (h1 : E.eval f = g) (h2 : evL E xs vs) : Rs E (.call ⟨.value f, xs.toArray, ats⟩) (.call g vs)
  | builtin {b : Builtin} {xs : List Operand} {ts : List TypeId} {vs : List Value} (h : evL E xs vs) : Rs E (.call ⟨.builtin b, xs.toArray, ts.toArray⟩) (.builtin b vs ts)
  | s2a {t : TypeId} {x : Operand} {v : Value} (h : E.eval x = v) : Rs E (.sliceToArrayPointer t x) (.s2a t v)
  | range {t : TypeId} {x : Operand} {v : Value} (h : E.eval x = v) : Rs E (.range t x) (.range t v)
  | next {x : Operand} {s : Bool} {v : Value} (h : E.eval x = v) : Rs E (.next x s) (.next v s)
  | entry {x : Operand} {v : Value} (h : E.eval x = v) : Rs E (.entry x) (.entry v)
  | other {o : Op} : Rs E o .other

theorem evL.of (E : Env) : ∀ xs : List Operand, evL E xs (xs.map E.eval)
  | [] => trivial
  | _ :: xs => ⟨rfl, evL.of E xs⟩
theorem evP.of (E : Env) : ∀ xs : List (Nat × Operand), evP E xs (xs.map fun p => (p.1, E.eval p.2))
  | [] => trivial
  | _ :: xs => ⟨rfl, rfl, evP.of E xs⟩
theorem rsv_ok {E : Env} {op : Op} {ro : RO} (h : rsv E op = ro) : Rs E op ro := by
  subst h
  cases op with
  | build t ps => simp only [rsv, foP_eq]; exact Rs.build (ps := ps.toList) (evP.of E _)
  | buildSlice t n ps => simp only [rsv, foP_eq]; exact Rs.buildSlice (ps := ps.toList) (evP.of E _)
  | makeFunc fn xs ys => simp only [rsv, foL_eq]; exact Rs.mkFunc (xs := xs.toList) (ys := ys.toList) (evL.of E _) (evL.of E _)
  | makeMap t r => cases r with | none => exact .mkMap | some x => exact .other
  | slice t x lo hi mx => simp only [rsv, fo_eq, foO_eq]; exact .slice rfl rfl rfl rfl
  | call cl =>
    obtain ⟨ce, xs, ts⟩ := cl
    cases ce with
    | value f => simp only [rsv, fo_eq, foL_eq]; exact Rs.call (xs := xs.toList) rfl (evL.of E _)
    | builtin b => simp only [rsv, foL_eq]; exact Rs.builtin (xs := xs.toList) (ts := ts.toList) (evL.of E _)
    | invoke _ _ => exact .other
  | _ => first | exact .other | (simp only [rsv, fo_eq]; constructor <;> rfl)

/-! ## The classes -/
/-- It needs no memory. -/
class Pu (P : Program) (ro : RO) (W : outParam ((Value → Prop) → Prop)) : Prop where
  go : ∀ (E : Env) (d : Option Tmp) (op : Op) (ty : TypeId) (pos : String) (af : Array Edge) (g : Option (Nat × Bool)), Rs E op ro → ∀ k : Value → Prop, W k → ∃ v, DP P E ⟨d, op, ty, pos, af, g⟩ v ∧ k v
/-- It reads at most. -/
class Re (P : Program) (c : Ctx) (L : List Assn) (ro : RO) (W : outParam ((Value → Prop) → Prop)) : Prop where
  go : ∀ (E : Env) (d : Option Tmp) (op : Op) (ty : TypeId) (pos : String) (af : Array Edge) (g : Option (Nat × Bool)), Rs E op ro → ∀ k : Value → Prop, W k → ∃ v, D P c L E ⟨d, op, ty, pos, af, g⟩ v ∧ k v
/-- Any. -/
class St (P : Program) (c : Ctx) (L : List Assn) (ro : RO) (W : outParam ((Value → List Assn → Prop) → Prop)) : Prop where
  go : ∀ (r : Rd) (E : Env) (d : Option Tmp) (op : Op) (ty : TypeId) (pos : String) (af : Array Edge) (g : Option (Nat × Bool)), Rs E op ro → ∀ k : Value → List Assn → Prop, W k → N P r c L E ⟨d, op, ty, pos, af, g⟩ k

section
variable {P : Program} {r : Rd} {c : Ctx} {L : List Assn}
instance (priority := 900) Re.ofPu {ro : RO} {W : (Value → Prop) → Prop} [h : Pu P ro W] : Re P c L ro W :=
  ⟨fun E d op ty pos af g hr k hk => let ⟨v, h1, h2⟩ := h.go E d op ty pos af g hr k hk; ⟨v, h1.d, h2⟩⟩
instance (priority := 900) St.ofRe {ro : RO} {W : (Value → Prop) → Prop} [h : Re P c L ro W] : St P c L ro (fun k => W fun v => k v L) :=
  ⟨fun r E d op ty pos af g hr k hk => let ⟨v, h1, h2⟩ := h.go E d op ty pos af g hr (fun v => k v L) hk; N.imp h1.n (fun v' L' ⟨e1, e2⟩ => by subst e1; subst e2; exact h2)⟩

section
variable {Q : Exit → Env → Rd → World → Prop} {nt : Nat} {l : List (Nat × Value)} {gb : Nat → Value} {ops : Array Oper} {rest : List Oper} {ds : Nat} {op : Op} {ty : TypeId} {pos : String} {af : Array Edge} {ro : RO} {W : (Value → List Assn → Prop) → Prop}
theorem TO.s (hr : rsv ⟨nt, l, gb⟩ op = ro) [h : St P c L ro W] (k : W (fun v L' => TO P r c L' ops Q rest ⟨nt, (ds, v) :: l, gb⟩)) : TO P r c L ops Q (⟨some ds, op, ty, pos, af, none⟩ :: rest) ⟨nt, l, gb⟩ :=
  TO.n (h.go r _ _ _ _ _ _ _ (rsv_ok hr) _ k) fun _ _ hk => hk
theorem TO.s0 (hr : rsv ⟨nt, l, gb⟩ op = ro) [h : St P c L ro W] (k : W (fun _ L' => TO P r c L' ops Q rest ⟨nt, l, gb⟩)) : TO P r c L ops Q (⟨none, op, ty, pos, af, none⟩ :: rest) ⟨nt, l, gb⟩ :=
  TO.n0 (h.go r _ _ _ _ _ _ _ (rsv_ok hr) _ k) fun _ _ hk => hk
/-- A guard that says yes, no, or is not known. -/
theorem TO.gy {j : Nat} {want : Bool} (hy : Env.yl ⟨nt, l, gb⟩ ops j = some want) (hr : rsv ⟨nt, l, gb⟩ op = ro) [h : St P c L ro W] (k : W (fun v L' => TO P r c L' ops Q rest ⟨nt, (ds, v) :: l, gb⟩)) : TO P r c L ops Q (⟨some ds, op, ty, pos, af, some (j, want)⟩ :: rest) ⟨nt, l, gb⟩ :=
  TO.on hy (h.go r _ _ _ _ _ _ _ (rsv_ok hr) _ k) fun _ _ hk => hk
theorem Env.put_same (t : Nat) (v : Value) (h : Env.get ⟨nt, l, gb⟩ t = v) : (⟨nt, l, gb⟩ : Env).act = (⟨nt, (t, v) :: l, gb⟩ : Env).act := by
  unfold Env.act
  congr 1
  apply Array.ext
  · simp
  · intro i h1 h2
    simp only [Array.size_ofFn] at h1
    simp only [Array.getElem_ofFn, look]
    cases hh : Nat.beq t i with
    | false => rfl
    | true =>
      have e := Nat.eq_of_beq_eq_true hh
      subst e
      unfold Env.get at h
      have hb : Nat.ble nt t = false := by
        cases h3 : Nat.ble nt t with
        | false => rfl
        | true => exact absurd (Nat.le_of_ble_eq_true h3) (by omega)
      simpa [hb] using h
/-- The guard's slot is asked. -/
theorem TO.gs {t : Nat} {b : Bool} {o : Oper} {j : Nat} {want : Bool} (hg : o.guard = some (j, want)) (ht : nthDst ops.toList j = some t) (hv : Env.get ⟨nt, l, gb⟩ t = .bool b)
    (h1 : b = true → TO P r c L ops Q (o :: rest) ⟨nt, (t, .bool true) :: l, gb⟩) (h2 : b = false → TO P r c L ops Q (o :: rest) ⟨nt, (t, .bool false) :: l, gb⟩) : TO P r c L ops Q (o :: rest) ⟨nt, l, gb⟩ := by
  unfold TO
  intro w hw
  cases b with
  | true => rw [Env.acd_congr (Env.put_same t _ hv) r]; have := h1 rfl; unfold TO at this; exact this w hw
  | false => rw [Env.acd_congr (Env.put_same t _ hv) r]; have := h2 rfl; unfold TO at this; exact this w hw
theorem TO.gd {t : Nat} {p : Prop} {inst : Decidable p} {o : Oper} {j : Nat} {want : Bool} (hg : o.guard = some (j, want)) (ht : nthDst ops.toList j = some t) (hv : Env.get ⟨nt, l, gb⟩ t = .bool (@decide p inst))
    (h1 : p → TO P r c L ops Q (o :: rest) ⟨nt, (t, .bool true) :: l, gb⟩) (h2 : ¬ p → TO P r c L ops Q (o :: rest) ⟨nt, (t, .bool false) :: l, gb⟩) : TO P r c L ops Q (o :: rest) ⟨nt, l, gb⟩ :=
  TO.gs hg ht hv (fun h => h1 (of_decide_eq_true h)) (fun h => h2 (of_decide_eq_false h))
end
end
end Pw


namespace Pw
open Go


/-! ## Facts on types, as classes -/
class Und (P : Program) (t : TypeId) (d : outParam TypeDesc) : Prop where h : P.underlying t = some d
class Sz (P : Program) (t : TypeId) (n : outParam Nat) : Prop where h : P.cellsOf t = n + 1
class Pl (P : Program) (t : TypeId) : Prop where h : plainT P t = true
class Ag (P : Program) (t : TypeId) : Prop where h : aggT P t = true
class Zr (P : Program) (t : TypeId) (z : outParam Value) : Prop where h : P.zeroOf t = some z
class By (P : Program) (t : TypeId) (n : outParam Nat) : Prop where h : P.bytesOf t = n
class Pc (P : Program) (t : TypeId) (l : outParam (List (Nat × Nat))) : Prop where h : placesOf P t = some l
class Lim (k : IntKind) (l : outParam Nat) : Prop where h : k.lim = l
class Uns (k : IntKind) : Prop where h : k.signed = false
class Sgn (k : IntKind) : Prop where h : k.signed = true
instance : Lim .i8 128 := ⟨rfl⟩
instance : Lim .i16 32768 := ⟨rfl⟩
instance : Lim .i32 2147483648 := ⟨rfl⟩
instance : Lim .i64 9223372036854775808 := ⟨rfl⟩
instance : Lim .u8 256 := ⟨rfl⟩
instance : Lim .u16 65536 := ⟨rfl⟩
instance : Lim .u32 4294967296 := ⟨rfl⟩
instance : Lim .u64 18446744073709551616 := ⟨rfl⟩
instance : Uns .u8 := ⟨rfl⟩
instance : Uns .u16 := ⟨rfl⟩
instance : Uns .u32 := ⟨rfl⟩
instance : Uns .u64 := ⟨rfl⟩
instance : Sgn .i8 := ⟨rfl⟩
instance : Sgn .i16 := ⟨rfl⟩
instance : Sgn .i32 := ⟨rfl⟩
instance : Sgn .i64 := ⟨rfl⟩
/-- The number as a Nat. -/
class Nn (x : Int) (a : outParam Nat) : Prop where h : x = (a : Int)
instance (a : Nat) : Nn (a : Int) a := ⟨rfl⟩
instance (priority := 900) (n : Nat) : Nn (no_index (@OfNat.ofNat Int n instOfNat)) (no_index (@OfNat.ofNat Nat n (instOfNatNat n))) := ⟨rfl⟩


/-- Places added. -/
class Ad (o i : Nat) (q : outParam Nat) : Prop where h : o + i = q
instance (priority := 1100) {i : Nat} : Ad 0 i i := ⟨Nat.zero_add i⟩
instance (priority := 1050) {i : Nat} : Ad i 0 i := ⟨rfl⟩
instance {o i : Nat} : Ad o i (o + i) := ⟨rfl⟩
/-! ## Lists -/
class GL {α : Type} (l : List α) (i : Nat) (a : outParam α) : Prop where h : l[i]? = some a
instance {α : Type} {a : α} {l : List α} : GL (a :: l) 0 a := ⟨rfl⟩
instance {α : Type} {a b : α} {l : List α} {i : Nat} [h : GL l i b] : GL (a :: l) (i + 1) b := ⟨by simpa using h.h⟩
class SLs (l : List Value) (i : Nat) (v : Value) (l' : outParam (List Value)) : Prop where h : l.set i v = l' ∧ i < l.length
instance {a v : Value} {l : List Value} : SLs (a :: l) 0 v (v :: l) := ⟨by simp⟩
instance {a v : Value} {l l' : List Value} {i : Nat} [h : SLs l i v l'] : SLs (a :: l) (i + 1) v (a :: l') := ⟨by have := h.h; constructor; simpa using this.1; simpa using this.2⟩
class Len {α : Type} (l : List α) (n : outParam Nat) : Prop where h : l.length = n
instance {α : Type} : Len ([] : List α) 0 := ⟨rfl⟩
instance {α : Type} {a : α} {l : List α} {n : Nat} [h : Len l n] : Len (a :: l) (n + 1) := ⟨by simp [h.h]⟩
class One (v : Value) : Prop where h : v.oneCell' = true
instance {b : Bool} : One (.bool b) := ⟨rfl⟩
instance {k : IntKind} {n : Int} : One (.int k n) := ⟨rfl⟩
instance {s : ByteArray} : One (.string s) := ⟨rfl⟩
instance {a : Option Addr} : One (.pointer a) := ⟨rfl⟩
instance {a : Option Addr} {n k : Nat} : One (.slice a n k) := ⟨rfl⟩
instance {m : Option Nat} : One (.map m) := ⟨rfl⟩
instance {f : Fn} {a b : Array Value} : One (.func f a b) := ⟨rfl⟩
instance : One .nilFunc := ⟨rfl⟩
instance : One .nilIface := ⟨rfl⟩
class Ones (l : List Value) : Prop where h : ∀ v ∈ l, v.oneCell' = true
instance : Ones [] := ⟨fun _ h => by cases h⟩
instance {a : Value} {l : List Value} [h1 : One a] [h2 : Ones l] : Ones (a :: l) := ⟨fun v h => by rcases List.mem_cons.1 h with rfl | h; exact h1.h; exact h2.h v h⟩

/-! ## What is held -/
/-- A family of what may be held, by a key: where it stands, and what else there is. -/
class Fam {κ α : Type} (F : κ → α → Assn) (L : List Assn) (k : κ) (a : outParam α) (R : outParam (List Assn)) : Prop where h : Del (F k a) L R
instance (priority := 1100) {κ α : Type} {F : κ → α → Assn} {L : List Assn} {k : κ} {a : α} : Fam F (F k a :: L) k a L := ⟨.head _ _⟩
instance {κ α : Type} {F : κ → α → Assn} {B : Assn} {L R : List Assn} {k : κ} {a : α} [h : Fam F L k a R] : Fam F (B :: L) k a (B :: R) := ⟨.tail h.h⟩
class RowAt (L : List Assn) (b : Nat) (e : outParam TypeId) (cs : outParam (List Value)) : Prop where h : LMem (row e b cs) L
instance (priority := 1100) {L : List Assn} {b : Nat} {e : TypeId} {cs : List Value} : RowAt (row e b cs :: L) b e cs := ⟨.head _ _⟩
instance {A : Assn} {L : List Assn} {b : Nat} {e : TypeId} {cs : List Value} [h : RowAt L b e cs] : RowAt (A :: L) b e cs := ⟨.tail h.h⟩
class PutRow (L : List Assn) (b o : Nat) (v : Value) (L' : outParam (List Assn)) : Prop where h : ∃ e cs, Put (row e b cs) L (row e b (cs.set o v)) L' ∧ o < cs.length
instance (priority := 1100) {L : List Assn} {b o : Nat} {v : Value} {e : TypeId} {cs cs' : List Value} [h : SLs cs o v cs'] : PutRow (row e b cs :: L) b o v (row e b cs' :: L) := ⟨e, cs, by rw [h.h.1]; exact .head _ _ _, h.h.2⟩
instance {A : Assn} {L L' : List Assn} {b o : Nat} {v : Value} [h : PutRow L b o v L'] : PutRow (A :: L) b o v (A :: L') := ⟨let ⟨e, cs, h1, h2⟩ := h.h; ⟨e, cs, .tail h1, h2⟩⟩
class SlAt (L : List Assn) (v : Value) (e : outParam TypeId) (sz n : outParam Nat) (xs : outParam (List Value)) (R : outParam (List Assn)) : Prop where h : Del (sl e sz v n xs) L R
instance (priority := 1100) {L : List Assn} {v : Value} {e : TypeId} {sz n : Nat} {xs : List Value} : SlAt (sl e sz v n xs :: L) v e sz n xs L := ⟨.head _ _⟩
instance {A : Assn} {L R : List Assn} {v : Value} {e : TypeId} {sz n : Nat} {xs : List Value} [h : SlAt L v e sz n xs R] : SlAt (A :: L) v e sz n xs (A :: R) := ⟨.tail h.h⟩
theorem Del.lmem {A : Assn} {L R : List Assn} (h : Del A L R) : LMem A L := by
  induction h with
  | head => exact .head _ _
  | tail _ ih => exact .tail ih
theorem Pick.of1 {A : Assn} {L R : List Assn} (h : Del A L R) : Pick [A] L R := .cons h (.nil _)

/-! ## The operations that need no memory -/
section
variable {P : Program}
instance {v : Value} : Pu P (.move v) (fun k => k v) := ⟨fun E d op ty pos af g hr k hk => by cases hr with | move h => exact ⟨_, DP.mv h, hk⟩⟩
instance {v : Value} : Pu P (.assign v) (fun k => k v) := ⟨fun E d op ty pos af g hr k hk => by cases hr with | assign h => exact ⟨_, DP.as h, hk⟩⟩
instance {a b : Value} : Pu P (.pick (.bool true) a b) (fun k => k a) := ⟨fun E d op ty pos af g hr k hk => by cases hr with | pick h1 h2 h3 => exact ⟨_, DP.pkT h1 h2, hk⟩⟩
instance {a b : Value} : Pu P (.pick (.bool false) a b) (fun k => k b) := ⟨fun E d op ty pos af g hr k hk => by cases hr with | pick h1 h2 h3 => exact ⟨_, DP.pkF h1 h3, hk⟩⟩
instance {vs : List Value} {i : Nat} {v : Value} [h : GL vs i v] : Pu P (.extract (.tuple vs.toArray) i) (fun k => k v) := ⟨fun E d op ty pos af g hr k hk => by cases hr with | extract h1 => exact ⟨_, DP.ex h1 (by have := h.h; simpa using this), hk⟩⟩
instance {a : Addr} : Pu P (.nilCheck (.pointer (some a))) (fun k => k (.pointer (some a))) := ⟨fun E d op ty pos af g hr k hk => by cases hr with | nilCheck h => exact ⟨_, DP.nck h, hk⟩⟩
instance {b : Bool} {t : TypeId} : Pu P (.un .not t (.bool b)) (fun k => k (.bool (!b))) := ⟨fun E d op ty pos af g hr k hk => by cases hr with | un h => exact ⟨_, DP.not h, hk⟩⟩
instance (priority := 1100) {p : Prop} {inst : Decidable p} {t : TypeId} : Pu P (.un .not t (.bool (@decide p inst))) (fun k => k (.bool (decide (¬ p)))) := ⟨fun E d op ty pos af g hr k hk => by cases hr with | un h => exact ⟨_, DP.to (DP.not h) (by simp), hk⟩⟩
instance (priority := 1200) {t : TypeId} : Pu P (.un .not t (.bool true)) (fun k => k (.bool false)) := ⟨fun E d op ty pos af g hr k hk => by cases hr with | un h => exact ⟨_, DP.not h, hk⟩⟩
instance (priority := 1200) {t : TypeId} : Pu P (.un .not t (.bool false)) (fun k => k (.bool true)) := ⟨fun E d op ty pos af g hr k hk => by cases hr with | un h => exact ⟨_, DP.not h, hk⟩⟩

/-- To be shown, and then to go on. -/
structure Vc (p q : Prop) : Prop where
  l : p
  r : q
/-- Either of two, the first if it may be. -/
def Ei (p a b : Prop) : Prop := (p ∧ a) ∨ b
theorem Ei.t {p a b : Prop} (h : p) (k : a) : Ei p a b := .inl ⟨h, k⟩
theorem Ei.f {p a b : Prop} (k : b) : Ei p a b := .inr k

section
variable {k : IntKind} {x y : Int} {a b l s : Nat} {t : TypeId}
instance [hl : Lim k l] [Uns k] [hs : Ad a b s] [h1 : Nn x a] [h2 : Nn y b] : Pu P (.bin .add t (.int k x) (.int k y)) (fun q => Ei (a + b < l) (q (.int k ((s : Nat) : Int))) (q (.int k (((a + b) % l : Nat) : Int)))) :=
  ⟨fun E d op ty pos af g hr q hk => by
    cases hr with | bin e1 e2 =>
    rw [h1.h] at e1; rw [h2.h] at e2
    rcases hk with ⟨hc, hk⟩ | hk
    · exact ⟨_, DP.add e1 e2 hl.h hc, by rw [hs.h]; exact hk⟩
    · exact ⟨_, DP.addW e1 e2 Uns.h hl.h, hk⟩⟩
instance [hl : Lim k l] [Sgn k] [hs : Ad a b s] [h1 : Nn x a] [h2 : Nn y b] : Pu P (.bin .add t (.int k x) (.int k y)) (fun q => Ei (a + b < l) (q (.int k ((s : Nat) : Int))) (Vc (k.fits ((a : Int) + b)) (q (.int k ((a : Int) + b))))) :=
  ⟨fun E d op ty pos af g hr q hk => by
    cases hr with | bin e1 e2 =>
    rw [h1.h] at e1; rw [h2.h] at e2
    rcases hk with ⟨hc, hk⟩ | ⟨hc, hk⟩
    · exact ⟨_, DP.add e1 e2 hl.h hc, by rw [hs.h]; exact hk⟩
    · exact ⟨_, DP.addI e1 e2 hc, hk⟩⟩
instance (priority := 500) : Pu P (.bin .add t (.int k x) (.int k y)) (fun q => Vc (k.fits (x + y)) (q (.int k (x + y)))) :=
  ⟨fun E d op ty pos af g hr q hk => by cases hr with | bin e1 e2 => exact ⟨_, DP.addI e1 e2 hk.1, hk.2⟩⟩
instance [hl : Lim k l] [Uns k] [h1 : Nn x a] [h2 : Nn y b] : Pu P (.bin .sub t (.int k x) (.int k y)) (fun q => Ei (b ≤ a ∧ a < l) (q (.int k ((a - b : Nat) : Int))) (Vc (b ≤ l) (q (.int k (((a + (l - b)) % l : Nat) : Int))))) :=
  ⟨fun E d op ty pos af g hr q hk => by
    cases hr with | bin e1 e2 =>
    rw [h1.h] at e1; rw [h2.h] at e2
    rcases hk with ⟨hc, hk⟩ | ⟨hc, hk⟩
    · exact ⟨_, DP.sub e1 e2 hl.h hc.1 hc.2, hk⟩
    · exact ⟨_, DP.subW e1 e2 Uns.h hl.h hc, hk⟩⟩
instance [hl : Lim k l] [Sgn k] [h1 : Nn x a] [h2 : Nn y b] : Pu P (.bin .sub t (.int k x) (.int k y)) (fun q => Ei (b ≤ a ∧ a < l) (q (.int k ((a - b : Nat) : Int))) (Vc (k.fits ((a : Int) - b)) (q (.int k ((a : Int) - b))))) :=
  ⟨fun E d op ty pos af g hr q hk => by
    cases hr with | bin e1 e2 =>
    rw [h1.h] at e1; rw [h2.h] at e2
    rcases hk with ⟨hc, hk⟩ | ⟨hc, hk⟩
    · exact ⟨_, DP.sub e1 e2 hl.h hc.1 hc.2, hk⟩
    · exact ⟨_, DP.subI e1 e2 hc, hk⟩⟩
instance (priority := 500) : Pu P (.bin .sub t (.int k x) (.int k y)) (fun q => Vc (k.fits (x - y)) (q (.int k (x - y)))) :=
  ⟨fun E d op ty pos af g hr q hk => by cases hr with | bin e1 e2 => exact ⟨_, DP.subI e1 e2 hk.1, hk.2⟩⟩
instance [hl : Lim k l] [Uns k] [h1 : Nn x a] [h2 : Nn y b] : Pu P (.bin .mul t (.int k x) (.int k y)) (fun q => Ei (a * b < l) (q (.int k ((a * b : Nat) : Int))) (q (.int k (((a * b) % l : Nat) : Int)))) :=
  ⟨fun E d op ty pos af g hr q hk => by
    cases hr with | bin e1 e2 =>
    rw [h1.h] at e1; rw [h2.h] at e2
    rcases hk with ⟨hc, hk⟩ | hk
    · exact ⟨_, DP.mul e1 e2 hl.h hc, hk⟩
    · exact ⟨_, DP.mulW e1 e2 Uns.h hl.h, hk⟩⟩
instance [hl : Lim k l] [Sgn k] [h1 : Nn x a] [h2 : Nn y b] : Pu P (.bin .mul t (.int k x) (.int k y)) (fun q => Vc (a * b < l) (q (.int k ((a * b : Nat) : Int)))) :=
  ⟨fun E d op ty pos af g hr q hk => by
    cases hr with | bin e1 e2 =>
    rw [h1.h] at e1; rw [h2.h] at e2
    exact ⟨_, DP.mul e1 e2 hl.h hk.1, hk.2⟩⟩
instance [hl : Lim k l] [h1 : Nn x a] [h2 : Nn y b] : Pu P (.bin .quo t (.int k x) (.int k y)) (fun q => Vc ((0 < b ∧ a < l)) (q (.int k ((a / b : Nat) : Int)))) :=
  ⟨fun E d op ty pos af g hr q hk => by
    cases hr with | bin e1 e2 =>
    rw [h1.h] at e1; rw [h2.h] at e2
    exact ⟨_, DP.quo e1 e2 hk.1.1 hl.h hk.1.2, hk.2⟩⟩
instance [h1 : Nn x a] [h2 : Nn y b] : Pu P (.bin .rem t (.int k x) (.int k y)) (fun q => Vc (0 < b) (q (.int k ((a % b : Nat) : Int)))) :=
  ⟨fun E d op ty pos af g hr q hk => by
    cases hr with | bin e1 e2 =>
    rw [h1.h] at e1; rw [h2.h] at e2
    exact ⟨_, DP.rem e1 e2 hk.1, hk.2⟩⟩
instance [hl : Lim k l] [h1 : Nn x a] [h2 : Nn y b] : Pu P (.bin .and t (.int k x) (.int k y)) (fun q => Vc ((a < l ∧ b < l)) (q (.int k ((a &&& b : Nat) : Int)))) :=
  ⟨fun E d op ty pos af g hr q hk => by
    cases hr with | bin e1 e2 =>
    rw [h1.h] at e1; rw [h2.h] at e2
    exact ⟨_, DP.band e1 e2 hl.h hk.1.1 hk.1.2, hk.2⟩⟩
instance [hl : Lim k l] [h1 : Nn x a] [h2 : Nn y b] : Pu P (.bin .or t (.int k x) (.int k y)) (fun q => Vc ((a < l ∧ b < l)) (q (.int k ((a ||| b : Nat) : Int)))) :=
  ⟨fun E d op ty pos af g hr q hk => by
    cases hr with | bin e1 e2 =>
    rw [h1.h] at e1; rw [h2.h] at e2
    exact ⟨_, DP.bor e1 e2 hl.h hk.1.1 hk.1.2, hk.2⟩⟩
instance [hl : Lim k l] [h1 : Nn x a] [h2 : Nn y b] : Pu P (.bin .xor t (.int k x) (.int k y)) (fun q => Vc ((a < l ∧ b < l)) (q (.int k ((a ^^^ b : Nat) : Int)))) :=
  ⟨fun E d op ty pos af g hr q hk => by
    cases hr with | bin e1 e2 =>
    rw [h1.h] at e1; rw [h2.h] at e2
    exact ⟨_, DP.bxor e1 e2 hl.h hk.1.1 hk.1.2, hk.2⟩⟩
instance {k' : IntKind} [hl : Lim k l] [Uns k] [h1 : Nn x a] [h2 : Nn y b] : Pu P (.bin .shl t (.int k x) (.int k' y)) (fun q => q (.int k ((a * 2 ^ b % l : Nat) : Int))) :=
  ⟨fun E d op ty pos af g hr q hk => by
    cases hr with | bin e1 e2 =>
    rw [h1.h] at e1; rw [h2.h] at e2
    exact ⟨_, DP.shl e1 e2 Uns.h hl.h, hk⟩⟩
instance {k' : IntKind} [hl : Lim k l] [h1 : Nn x a] [h2 : Nn y b] : Pu P (.bin .shr t (.int k x) (.int k' y)) (fun q => Vc (a < l) (q (.int k ((a / 2 ^ b : Nat) : Int)))) :=
  ⟨fun E d op ty pos af g hr q hk => by
    cases hr with | bin e1 e2 =>
    rw [h1.h] at e1; rw [h2.h] at e2
    exact ⟨_, DP.shr e1 e2 hl.h hk.1, hk.2⟩⟩
instance [h1 : Nn x a] [h2 : Nn y b] : Pu P (.bin .lss t (.int k x) (.int k y)) (fun q => q (.bool (decide (a < b)))) := ⟨fun E d op ty pos af g hr q hk => by cases hr with | bin e1 e2 => rw [h1.h] at e1; rw [h2.h] at e2; exact ⟨_, DP.lss e1 e2, hk⟩⟩
instance [h1 : Nn x a] [h2 : Nn y b] : Pu P (.bin .leq t (.int k x) (.int k y)) (fun q => q (.bool (decide (a ≤ b)))) := ⟨fun E d op ty pos af g hr q hk => by cases hr with | bin e1 e2 => rw [h1.h] at e1; rw [h2.h] at e2; exact ⟨_, DP.leq e1 e2, hk⟩⟩
instance [h1 : Nn x a] [h2 : Nn y b] : Pu P (.bin .gtr t (.int k x) (.int k y)) (fun q => q (.bool (decide (b < a)))) := ⟨fun E d op ty pos af g hr q hk => by cases hr with | bin e1 e2 => rw [h1.h] at e1; rw [h2.h] at e2; exact ⟨_, DP.gtr e1 e2, hk⟩⟩
instance [h1 : Nn x a] [h2 : Nn y b] : Pu P (.bin .geq t (.int k x) (.int k y)) (fun q => q (.bool (decide (b ≤ a)))) := ⟨fun E d op ty pos af g hr q hk => by cases hr with | bin e1 e2 => rw [h1.h] at e1; rw [h2.h] at e2; exact ⟨_, DP.geq e1 e2, hk⟩⟩
instance [h1 : Nn x a] [h2 : Nn y b] : Pu P (.bin .eql t (.int k x) (.int k y)) (fun q => q (.bool (decide (a = b)))) := ⟨fun E d op ty pos af g hr q hk => by cases hr with | bin e1 e2 => rw [h1.h] at e1; rw [h2.h] at e2; exact ⟨_, DP.eql e1 e2, hk⟩⟩
instance [h1 : Nn x a] [h2 : Nn y b] : Pu P (.bin .neq t (.int k x) (.int k y)) (fun q => q (.bool (decide (a ≠ b)))) := ⟨fun E d op ty pos af g hr q hk => by cases hr with | bin e1 e2 => rw [h1.h] at e1; rw [h2.h] at e2; exact ⟨_, DP.neq e1 e2, hk⟩⟩
instance (priority := 500) : Pu P (.bin .lss t (.int k x) (.int k y)) (fun q => q (.bool (decide (x < y)))) := ⟨fun E d op ty pos af g hr q hk => by cases hr with | bin e1 e2 => exact ⟨_, DP.lssI e1 e2, hk⟩⟩
instance (priority := 500) : Pu P (.bin .leq t (.int k x) (.int k y)) (fun q => q (.bool (decide (x ≤ y)))) := ⟨fun E d op ty pos af g hr q hk => by cases hr with | bin e1 e2 => exact ⟨_, DP.leqI e1 e2, hk⟩⟩
instance (priority := 500) : Pu P (.bin .gtr t (.int k x) (.int k y)) (fun q => q (.bool (decide (y < x)))) := ⟨fun E d op ty pos af g hr q hk => by cases hr with | bin e1 e2 => exact ⟨_, DP.gtrI e1 e2, hk⟩⟩
instance (priority := 500) : Pu P (.bin .geq t (.int k x) (.int k y)) (fun q => q (.bool (decide (y ≤ x)))) := ⟨fun E d op ty pos af g hr q hk => by cases hr with | bin e1 e2 => exact ⟨_, DP.geqI e1 e2, hk⟩⟩
instance (priority := 500) : Pu P (.bin .eql t (.int k x) (.int k y)) (fun q => q (.bool (decide (x = y)))) := ⟨fun E d op ty pos af g hr q hk => by cases hr with | bin e1 e2 => exact ⟨_, DP.eqlI e1 e2, hk⟩⟩
instance (priority := 500) : Pu P (.bin .neq t (.int k x) (.int k y)) (fun q => q (.bool (decide (x ≠ y)))) := ⟨fun E d op ty pos af g hr q hk => by cases hr with | bin e1 e2 => exact ⟨_, DP.neqI e1 e2, hk⟩⟩
/-- Conversions. -/
instance {k' : IntKind} {t t' : TypeId} {ds : TypeDesc} [hs : Und P t ds] [ht : Und P t' (.int k)] [hl : Lim k l] [Uns k] [h1 : Nn x a] : Pu P (.conv t t' (.int k' x)) (fun q => Ei (a < l) (q (.int k (a : Int))) (q (.int k ((a % l : Nat) : Int)))) :=
  ⟨fun E d op ty pos af g hr q hk => by
    cases hr with | conv e1 =>
    rw [h1.h] at e1
    rcases hk with ⟨hc, hk⟩ | hk
    · exact ⟨_, DP.cv e1 (by rw [hs.h]; rfl) ht.h hl.h hc, hk⟩
    · exact ⟨_, DP.cvW e1 (by rw [hs.h]; rfl) ht.h Uns.h hl.h, hk⟩⟩
instance {k' : IntKind} {t t' : TypeId} {ds : TypeDesc} [hs : Und P t ds] [ht : Und P t' (.int k)] [hl : Lim k l] [Sgn k] [h1 : Nn x a] : Pu P (.conv t t' (.int k' x)) (fun q => Ei (a < l) (q (.int k (a : Int))) (q (.int k (k.wrap (a : Int))))) :=
  ⟨fun E d op ty pos af g hr q hk => by
    cases hr with | conv e1 =>
    rw [h1.h] at e1
    rcases hk with ⟨hc, hk⟩ | hk
    · exact ⟨_, DP.cv e1 (by rw [hs.h]; rfl) ht.h hl.h hc, hk⟩
    · exact ⟨_, DP.cvX e1 (by rw [hs.h]; rfl) ht.h, hk⟩⟩
instance (priority := 500) {k' : IntKind} {t t' : TypeId} {ds : TypeDesc} [hs : Und P t ds] [ht : Und P t' (.int k)] : Pu P (.conv t t' (.int k' x)) (fun q => Ei (k.fits x) (q (.int k x)) (q (.int k (k.wrap x)))) :=
  ⟨fun E d op ty pos af g hr q hk => by
    cases hr with | conv e1 =>
    rcases hk with ⟨hc, hk⟩ | hk
    · exact ⟨_, DP.cvI e1 (by rw [hs.h]; rfl) ht.h hc, hk⟩
    · exact ⟨_, DP.cvX e1 (by rw [hs.h]; rfl) ht.h, hk⟩⟩
end
/-! strings -/
section
variable {l m : List UInt8} {t : TypeId}
instance : Pu P (.bin .add t (str l) (str m)) (fun q => Vc (l.length + m.length ≤ 9223372036854775807) (q (str (l ++ m)))) := ⟨fun E d op ty pos af g hr q hk => by cases hr with | bin e1 e2 => exact ⟨_, DP.cat e1 e2 hk.1, hk.2⟩⟩
instance : Pu P (.bin .eql t (str l) (str m)) (fun q => q (.bool (decide (l = m)))) := ⟨fun E d op ty pos af g hr q hk => by cases hr with | bin e1 e2 => exact ⟨_, DP.teql e1 e2, hk⟩⟩
instance : Pu P (.bin .neq t (str l) (str m)) (fun q => q (.bool (decide (l ≠ m)))) := ⟨fun E d op ty pos af g hr q hk => by cases hr with | bin e1 e2 => exact ⟨_, DP.tneq e1 e2, hk⟩⟩
instance [ht : Und P t .string] : Pu P (.builtin .len [str l] [t]) (fun q => q (.int .i64 (l.length : Nat))) := ⟨fun E d op ty pos af g hr q hk => by
    cases hr with | builtin e =>
    rename_i xs
    match xs, e with
    | [x], ⟨e1, _⟩ => exact ⟨_, DP.lenT e1 ht.h, hk⟩⟩
end
/-! pointers and slices against nil -/
section
variable {t e : TypeId}
instance {a : Addr} [ht : Und P t (.pointer e)] : Pu P (.bin .eql t (.pointer (some a)) (.pointer none)) (fun q => q (.bool false)) := ⟨fun E d op ty pos af g hr q hk => by cases hr with | bin e1 e2 => exact ⟨_, DP.peqS e1 e2 ht.h, hk⟩⟩
instance {a : Addr} [ht : Und P t (.pointer e)] : Pu P (.bin .neq t (.pointer (some a)) (.pointer none)) (fun q => q (.bool true)) := ⟨fun E d op ty pos af g hr q hk => by cases hr with | bin e1 e2 => exact ⟨_, DP.pneS e1 e2 ht.h, hk⟩⟩
instance [ht : Und P t (.pointer e)] : Pu P (.bin .eql t (.pointer none) (.pointer none)) (fun q => q (.bool true)) := ⟨fun E d op ty pos af g hr q hk => by cases hr with | bin e1 e2 => exact ⟨_, DP.peq0 e1 e2 ht.h, hk⟩⟩
instance [ht : Und P t (.pointer e)] : Pu P (.bin .neq t (.pointer none) (.pointer none)) (fun q => q (.bool false)) := ⟨fun E d op ty pos af g hr q hk => by cases hr with | bin e1 e2 => exact ⟨_, DP.pne0 e1 e2 ht.h, hk⟩⟩
instance (priority := 500) {p : Option Addr} [ht : Und P t (.pointer e)] : Pu P (.bin .eql t (.pointer p) (.pointer none)) (fun q => q (.bool p.isNone)) := ⟨fun E d op ty pos af g hr q hk => by cases hr with | bin e1 e2 => exact ⟨_, DP.peq e1 e2 ht.h, hk⟩⟩
instance (priority := 500) {p : Option Addr} [ht : Und P t (.pointer e)] : Pu P (.bin .neq t (.pointer p) (.pointer none)) (fun q => q (.bool (!p.isNone))) := ⟨fun E d op ty pos af g hr q hk => by cases hr with | bin e1 e2 => exact ⟨_, DP.pne e1 e2 ht.h, hk⟩⟩
instance {a : Option Addr} {n m n' m' : Nat} [ht : Und P t (.slice e)] : Pu P (.bin .eql t (.slice a n m) (.slice none n' m')) (fun q => q (.bool a.isNone)) := ⟨fun E d op ty pos af g hr q hk => by cases hr with | bin e1 e2 => exact ⟨_, DP.seqN e1 e2 ht.h, hk⟩⟩
instance {a : Option Addr} {n m n' m' : Nat} [ht : Und P t (.slice e)] : Pu P (.bin .neq t (.slice a n m) (.slice none n' m')) (fun q => q (.bool (!a.isNone))) := ⟨fun E d op ty pos af g hr q hk => by cases hr with | bin e1 e2 => exact ⟨_, DP.sneN e1 e2 ht.h, hk⟩⟩
instance {a b : Bool} [ht : Und P t .bool] : Pu P (.bin .eql t (.bool a) (.bool b)) (fun q => q (.bool (a == b))) := ⟨fun E d op ty pos af g hr q hk => by cases hr with | bin e1 e2 => exact ⟨_, DP.beql e1 e2 ht.h, hk⟩⟩
instance {a b : Bool} [ht : Und P t .bool] : Pu P (.bin .neq t (.bool a) (.bool b)) (fun q => q (.bool (a != b))) := ⟨fun E d op ty pos af g hr q hk => by cases hr with | bin e1 e2 => exact ⟨_, DP.bneq e1 e2 ht.h, hk⟩⟩
instance {a : Option Addr} {n m : Nat} [ht : Und P t (.slice e)] : Pu P (.builtin .len [.slice a n m] [t]) (fun q => q (.int .i64 (n : Nat))) := ⟨fun E d op ty pos af g hr q hk => by
    cases hr with | builtin e =>
    rename_i xs
    match xs, e with
    | [x], ⟨e1, _⟩ => exact ⟨_, DP.lenS e1 ht.h, hk⟩⟩
instance {a : Option Addr} {n m : Nat} [ht : Und P t (.slice e)] : Pu P (.builtin .cap [.slice a n m] [t]) (fun q => q (.int .i64 (m : Nat))) := ⟨fun E d op ty pos af g hr q hk => by
    cases hr with | builtin e =>
    rename_i xs
    match xs, e with
    | [x], ⟨e1, _⟩ => exact ⟨_, DP.capS e1 ht.h, hk⟩⟩
end
/-! addresses, fields -/
section
variable {t ft e : TypeId} {b o k fo n i len cap : Nat} {fs : List Field} {nm tg pk : String} {em : Bool} {bo : Nat}
instance [ht : Und P t (.struct fs.toArray)] [hf : GL fs k ⟨nm, ft, fo, em, tg, pk, bo⟩] [hz : Sz P ft n] : Pu P (.fieldAddr t (.pointer (some ⟨b, o, none⟩)) k) (fun q => q (.pointer (some ⟨b, o + fo, none⟩))) :=
  ⟨fun E d op ty pos af g hr q hk => by cases hr with | fieldAddr e1 => exact ⟨_, DP.fa fo e1 ht.h (by have := hf.h; simpa using this) rfl hz.h, hk⟩⟩
instance {cs : List Value} {v : Value} [ht : Und P t (.struct fs.toArray)] [hf : GL fs k ⟨nm, ft, fo, em, tg, pk, bo⟩] [hp : Pl P ft] [hv : GL cs fo v] : Pu P (.field t (.agg cs.toArray) k) (fun q => q v) :=
  ⟨fun E d op ty pos af g hr q hk => by cases hr with | field e1 => exact ⟨_, DP.fd1 fo e1 ht.h (by have := hf.h; simpa using this) rfl hp.h (by have := hv.h; simpa using this), hk⟩⟩
end
end
end Pw


namespace Pw
open Go
/-- One or the other, by what an option is. -/
def Opt {α : Type} (o : Option α) (a : Prop) (b : α → Prop) : Prop := (o = none ∧ a) ∨ ∃ x, o = some x ∧ b x
theorem Opt.n {α : Type} {o : Option α} {a : Prop} {b : α → Prop} (h : o = none) (k : a) : Opt o a b := .inl ⟨h, k⟩
theorem Opt.s {α : Type} {o : Option α} {a : Prop} {b : α → Prop} {x : α} (h : o = some x) (k : b x) : Opt o a b := .inr ⟨x, h, k⟩
/-- A pointer to the j-th cell behind a. -/
def eA (a : Option Addr) (j : Nat) : Option Addr := a.map fun x => ⟨x.block, x.off + j, none⟩
def gt {α : Type} [Inhabited α] (l : List α) (i : Nat) : α := l.getD i default
theorem gt_get {α : Type} [Inhabited α] {l : List α} {i : Nat} (h : i < l.length) : l[i]? = some (gt l i) := by simp [gt, h]
theorem gt_mem {α : Type} [Inhabited α] {l : List α} {i : Nat} (h : i < l.length) : gt l i ∈ l := List.mem_of_getElem? (gt_get h)
class FLen {α : Type} (f : α → List Value) (k : Nat) : Prop where h : ∀ x, (f x).length = k
class FOne {α : Type} (f : α → List Value) : Prop where h : ∀ x, ∀ u ∈ f x, u.oneCell' = true
/-- The j-th cell. -/
class ElV (xs : List Value) (j : Nat) (v : outParam Value) (C : outParam Prop) : Prop where h : C → xs[j]? = some v
instance {α : Type} [Inhabited α] {l : List α} {f : α → Value} {j : Nat} : ElV (l.map f) j (f (gt l j)) (j < l.length) := ⟨fun h => by rw [List.getElem?_map, gt_get h]; rfl⟩
instance {α : Type} [Inhabited α] {l : List α} {f : α → List Value} {i sz o : Nat} {v : Value} [hf : FLen f sz] [hg : GL (f (gt l i)) o v] : ElV (l.flatMap f) (i * sz + o) v (i < l.length) := ⟨fun h => flat_elem hf.h (gt_get h) o v hg.h⟩
instance (priority := 500) {xs : List Value} {j : Nat} {v : Value} [h : GL xs j v] : ElV xs j v True := ⟨fun _ => h.h⟩
/-- The slice whose array begins at a. -/
class ElAt (L : List Assn) (a : Option Addr) (e : outParam TypeId) (sz n k : outParam Nat) (xs : outParam (List Value)) (R : outParam (List Assn)) : Prop where h : Del (sl e sz (.slice a n k) n xs) L R
instance (priority := 1100) {L : List Assn} {a : Option Addr} {e : TypeId} {sz n k : Nat} {xs : List Value} : ElAt (sl e sz (.slice a n k) n xs :: L) a e sz n k xs L := ⟨.head _ _⟩
instance {A : Assn} {L R : List Assn} {a : Option Addr} {e : TypeId} {sz n k : Nat} {xs : List Value} [h : ElAt L a e sz n k xs R] : ElAt (A :: L) a e sz n k xs (A :: R) := ⟨.tail h.h⟩
/-- .. of the inputs -/
class InAt (L : List Assn) (a : Option Addr) (sz n k : outParam Nat) (xs : outParam (List Value)) : Prop where h : ∃ h, LMem (old h) L ∧ Inp h sz n (.slice a n k) xs

section
variable {P : Program} {r : Rd} {c : Ctx} {L : List Assn}
theorem N.imp2 {E : Env} {o : Oper} {Φ Ψ : Value → List Assn → Prop} (h : N P r c L E o Φ) (e : ∀ v L' w, Φ v L' → SL c L' w → Ψ v L') : N P r c L E o Ψ := by
  unfold N at *
  exact fun w hw K Q hK => h w hw K Q fun v L' w' hΦ hw' => hK v L' w' (e v L' w' hΦ hw') hw'
theorem SL.sl_form {w : World} {e : TypeId} {sz n : Nat} {v : Value} {xs : List Value} {R : List Assn} (h : SL c (sl e sz v n xs :: R) w) : ∃ a k, v = .slice a n k := by
  obtain ⟨f1, hs, _⟩ := SLh.mem (.head _ _) h.2.2.2
  rcases hs with ⟨rfl, rfl, _⟩ | ⟨b, k, _, rfl, _⟩
  · exact ⟨none, 0, rfl⟩
  · exact ⟨_, _, rfl⟩

/-! ### new blocks -/
instance {t : TypeId} {cs : List Value} : St P c L (.box t (.agg cs.toArray)) (fun k => ∀ b, k (.pointer (some ⟨b, 0, none⟩)) (row t b cs :: L)) :=
  ⟨fun r E d op ty pos af g hr k hk => by cases hr with | box e => exact (N.bxA e).imp fun v L' ⟨b, h1, h2⟩ => by subst h1; subst h2; exact hk b⟩
instance (priority := 500) {t : TypeId} {v : Value} [h : One v] : St P c L (.box t v) (fun k => ∀ b, k (.pointer (some ⟨b, 0, none⟩)) (row t b [v] :: L)) :=
  ⟨fun r E d op ty pos af g hr k hk => by cases hr with | box e => exact (N.bx1 e h.h).imp fun v L' ⟨b, h1, h2⟩ => by subst h1; subst h2; exact hk b⟩
instance {t : TypeId} {cs : List Value} [hz : Zr P t (.agg cs.toArray)] : St P c L (.alloc t) (fun k => ∀ b, k (.pointer (some ⟨b, 0, none⟩)) (row t b cs :: L)) :=
  ⟨fun r E d op ty pos af g hr k hk => by cases hr with | alloc => exact (N.alA hz.h).imp fun v L' ⟨b, h1, h2⟩ => by subst h1; subst h2; exact hk b⟩
instance (priority := 500) {t : TypeId} {z : Value} [hz : Zr P t z] [h : One z] : St P c L (.alloc t) (fun k => ∀ b, k (.pointer (some ⟨b, 0, none⟩)) (row t b [z] :: L)) :=
  ⟨fun r E d op ty pos af g hr k hk => by cases hr with | alloc => exact (N.al1 hz.h h.h).imp fun v L' ⟨b, h1, h2⟩ => by subst h1; subst h2; exact hk b⟩

/-! ### loads and stores -/
instance {t e : TypeId} {b o : Nat} {cs : List Value} {v : Value} [hp : Pl P t] [hr : RowAt L b e cs] [hg : GL cs o v] : Re P c L (.load t (.pointer (some ⟨b, o, none⟩))) (fun k => k v) :=
  ⟨fun E d op ty pos af g hs k hk => by cases hs with | load e1 => exact ⟨_, D.ldR e1 hp.h hr.h hg.h, hk⟩⟩
instance {t e : TypeId} {b n : Nat} {cs : List Value} [hp : Ag P t] [hz : Sz P t n] [hr : RowAt L b e cs] [hl : Len cs (n + 1)] : Re P c L (.load t (.pointer (some ⟨b, 0, none⟩))) (fun k => k (.agg cs.toArray)) :=
  ⟨fun E d op ty pos af g hs k hk => by cases hs with | load e1 => exact ⟨_, D.ldRA e1 hp.h hz.h hr.h hl.h, hk⟩⟩
instance {t : TypeId} {b o : Nat} {v : Value} {L' : List Assn} [hz : Sz P t 0] [h1 : One v] [hp : PutRow L b o v L'] : St P c L (.store t (.pointer (some ⟨b, o, none⟩)) v) (fun k => k undef L') :=
  ⟨fun r E d op ty pos af g hs k hk => by
    cases hs with | store e1 e2 =>
    obtain ⟨e, cs, h3, h4⟩ := hp.h
    exact (N.st e1 e2 hz.h h3 h4 h1.h).imp fun _ _ hq => by rw [hq.1, hq.2]; exact hk⟩
class PutRowA (L : List Assn) (b : Nat) (vs : List Value) (L' : outParam (List Assn)) : Prop where h : ∃ e cs, Put (row e b cs) L (row e b vs) L' ∧ cs.length = vs.length
instance (priority := 1100) {L : List Assn} {b n : Nat} {vs cs : List Value} {e : TypeId} [h1 : Len cs n] [h2 : Len vs n] : PutRowA (row e b cs :: L) b vs (row e b vs :: L) := ⟨e, cs, .head _ _ _, by rw [h1.h, h2.h]⟩
instance {A : Assn} {L L' : List Assn} {b : Nat} {vs : List Value} [h : PutRowA L b vs L'] : PutRowA (A :: L) b vs (A :: L') := ⟨let ⟨e, cs, h1, h2⟩ := h.h; ⟨e, cs, .tail h1, h2⟩⟩
instance {t : TypeId} {b n : Nat} {vs : List Value} {L' : List Assn} [hz : Sz P t n] [hl : Len vs (n + 1)] [h1 : Ones vs] [hp : PutRowA L b vs L'] : St P c L (.store t (.pointer (some ⟨b, 0, none⟩)) (.agg vs.toArray)) (fun k => k undef L') :=
  ⟨fun r E d op ty pos af g hs k hk => by
    cases hs with | store e1 e2 =>
    obtain ⟨e, cs, h3, h4⟩ := hp.h
    have e0 : setAll cs 0 vs = vs := by rw [setAll_eq _ _ _ (by omega)]; simp [h4]
    exact (N.stA (cs := cs) e1 e2 hz.h (by rw [e0]; exact h3) (by omega) h1.h hl.h).imp fun _ _ hq => by rw [hq.1, hq.2]; exact hk⟩

/-! ### structs made of parts -/
class Cel (v : Value) (us : outParam (List Value)) : Prop where h : cellsL v = us
instance {cs : List Value} : Cel (.agg cs.toArray) cs := ⟨by simp [cellsL]⟩
instance (priority := 500) {v : Value} [h : One v] : Cel v [v] := ⟨by have := h.h; cases v <;> first | rfl | (simp [Value.oneCell'] at this)⟩
class SLm (zs : List Value) (o : Nat) (vs : List Value) (us : outParam (List Value)) : Prop where h : setAll zs o vs = us ∧ o + vs.length ≤ zs.length
class SLm1 (zs : List Value) (o : Nat) (vs : List Value) (us : outParam (List Value)) : Prop where h : setAll zs o vs = us ∧ (vs = [] ∨ o + vs.length ≤ zs.length)
instance {zs : List Value} {o : Nat} : SLm1 zs o [] zs := ⟨rfl, .inl rfl⟩
instance {zs z1 us vs : List Value} {o : Nat} {v : Value} [h1 : SLs zs o v z1] [h2 : SLm1 z1 (o + 1) vs us] : SLm1 zs o (v :: vs) us := ⟨by
  obtain ⟨a, b⟩ := h1.h
  obtain ⟨d, e⟩ := h2.h
  subst a
  refine ⟨d, .inr ?_⟩
  rcases e with rfl | e
  · simp; omega
  · simp at e ⊢; omega⟩
class Fil (pl : List (Nat × Nat)) (zs : List Value) (vs : List (Nat × Value)) (us : outParam (List Value)) : Prop where h : fillL (fun i => pl[i]?) zs vs = some us
instance {pl : List (Nat × Nat)} {zs : List Value} : Fil pl zs [] zs := ⟨rfl⟩
instance {pl : List (Nat × Nat)} {zs z1 us cs : List Value} {i o n : Nat} {v zz : Value} {t : List (Nat × Value)} [h1 : GL pl i (o, n)] [h2 : Cel v cs] [h3 : Len cs n] [h4 : SLm1 zs o cs z1] [h5 : Fil pl z1 t us] [h6 : GL zs o zz] : Fil pl zs ((i, v) :: t) us := ⟨by
  obtain ⟨a, b⟩ := h4.h
  have hn := h3.h
  have ho : o < zs.length := by
    have := h6.h
    rcases Nat.lt_or_ge o zs.length with h | h
    · exact h
    · rw [List.getElem?_eq_none h] at this; cases this
  have hb : (Nat.beq (cellsL v).length n && Nat.ble (o + n) zs.length) = true := by
    rw [h2.h, hn]
    simp only [Bool.and_eq_true]
    refine ⟨Nat.beq_refl n, Nat.ble_eq_true_of_le ?_⟩
    rcases b with rfl | b
    · simp at hn; omega
    · omega
  simp only [fillL, h1.h]
  rw [hb, h2.h, a]
  exact h5.h⟩
instance {t : TypeId} {vs : List (Nat × Value)} {pl : List (Nat × Nat)} {z : Value} {zs us : List Value} [hp : Pc P t pl] [hz : Zr P t z] [hc : Cel z zs] [hf : Fil pl zs vs us] : Pu P (.build t vs) (fun k => k (.agg us.toArray)) :=
  ⟨fun E d op ty pos af g hs k hk => by cases hs with | build e => exact ⟨_, DP.bdL e hp.h hz.h (by rw [hc.h]; exact hf.h), hk⟩⟩
class MulN (i n : Nat) (q : outParam Nat) : Prop where h : i * n = q
instance (priority := 1100) {i : Nat} : MulN i 1 i := ⟨Nat.mul_one i⟩
instance {n : Nat} : MulN 0 n 0 := ⟨Nat.zero_mul n⟩
instance {i n p : Nat} [h : MulN i n p] : MulN (i + 1) n (p + n) := ⟨by rw [Nat.succ_mul, h.h]⟩
class FilA (sz : Nat) (zs : List Value) (vs : List (Nat × Value)) (us : outParam (List Value)) : Prop where h : fillL (fun i => some (i * sz, sz)) zs vs = some us
instance {sz : Nat} {zs : List Value} : FilA sz zs [] zs := ⟨rfl⟩
instance {zs z1 us cs : List Value} {i sz o : Nat} {v zz : Value} {t : List (Nat × Value)} [hm : MulN i sz o] [h2 : Cel v cs] [h3 : Len cs sz] [h4 : SLm1 zs o cs z1] [h6 : GL zs o zz] [h5 : FilA sz z1 t us] : FilA sz zs ((i, v) :: t) us := ⟨by
  obtain ⟨a, b⟩ := h4.h
  have hn := h3.h
  have ho : o < zs.length := by
    have := h6.h
    rcases Nat.lt_or_ge o zs.length with h | h
    · exact h
    · rw [List.getElem?_eq_none h] at this; cases this
  have hb : (Nat.beq (cellsL v).length sz && Nat.ble (i * sz + sz) zs.length) = true := by
    rw [h2.h, hn, hm.h]
    simp only [Bool.and_eq_true]
    refine ⟨Nat.beq_refl _, Nat.ble_eq_true_of_le ?_⟩
    rcases b with rfl | b
    · simp at hn; omega
    · omega
  simp only [fillL]
  rw [hb, h2.h, hm.h, a]
  exact h5.h⟩
/-! ### slices made of parts: of one element -/
theorem Ent.slP' {b n sz : Nat} {e : TypeId} {cs : List Value} {R : List Assn} (h : cs.length = n * sz) : Ent c (pt b (.cells cs.toArray e (0, 0)) :: R) (Pw.sl e sz (.slice (some ⟨b, 0, none⟩) n n) n cs :: R) := Ent.slP h
theorem N.ent {E : Env} {o : Oper} {Φ Ψ : Value → List Assn → Prop} (h : N P r c L E o Φ) (e : ∀ v L', Φ v L' → ∃ L'', Ent c L' L'' ∧ Ψ v L'') : N P r c L E o Ψ := by
  unfold N at *
  intro w hw K Q hK
  refine h w hw K Q fun v L' w' hΦ hw' => ?_
  obtain ⟨L'', h1, h2⟩ := e v L' hΦ
  exact hK v L'' w' h2 (h1 w' hw')
instance {t e : TypeId} {v : Value} {sz : Nat} {z : Value} {cs zs : List Value} [ht : Und P t (.slice e)] [hz : Sz P e sz] [hr : Zr P e z] [hcz : Cel z zs] [hc : Cel v cs] [hl : Len cs (sz + 1)] [hlz : Len zs (sz + 1)] : St P c L (.buildSlice t 1 [(0, v)]) (fun k => Vc (sz + 1 ≤ 16777216) (∀ b, k (.slice (some ⟨b, 0, none⟩) 1 1) (sl e (sz + 1) (.slice (some ⟨b, 0, none⟩) 1 1) 1 cs :: L))) :=
  ⟨fun r E d op ty pos af g hs k hk => by
    cases hs with | buildSlice e1 =>
    obtain ⟨hlim, hk⟩ := hk
    · have hfil : fillL (fun i => some (i * (sz + 1), sz + 1)) (List.replicate 1 (cellsL z)).flatten [(0, v)] = some cs := by
        have h1 : (cellsL z).length = sz + 1 := by rw [hcz.h]; exact hlz.h
        have h2 : (cellsL v).length = sz + 1 := by rw [hc.h]; exact hl.h
        have hb : (Nat.beq (cellsL v).length (sz + 1) && Nat.ble (0 * (sz + 1) + (sz + 1)) (List.replicate 1 (cellsL z)).flatten.length) = true := by
          rw [h2]
          simp only [Bool.and_eq_true]
          exact ⟨Nat.beq_refl _, Nat.ble_eq_true_of_le (by simp [h1])⟩
        simp only [fillL]
        rw [hb, hc.h]
        simp only [cond_true]
        rw [setAll_eq _ _ _ (by simp [h1, hl.h])]
        simp [h1, hl.h]
      exact N.ent (N.bsL e1 ht.h hz.h hr.h (by rw [hcz.h]; exact hlz.h) (by omega) hfil) fun v L' ⟨b, h1, h2⟩ => by
        subst h1; subst h2
        exact ⟨_, Ent.slP (by rw [hl.h]; omega), hk b⟩⟩
end
end Pw


namespace Pw
open Go
/-! ## The steps of the code -/
class Go1 (G : Prop) (G' : outParam Prop) : Prop where go : G' → G
section
variable {P : Program} {r : Rd} {c : Ctx} {L : List Assn} {Q : Exit → Env → Rd → World → Prop} {E : Env}
instance {x y : Code} : Go1 (T P r c L (.seq x y) Q E) (T P r c L x (thenQ P r y Q) E) := ⟨T.seq⟩
instance {id : Nat} {x : Code} : Go1 (T P r c L (.block id x) Q E) (T P r c L x (blockQ id Q) E) := ⟨T.block⟩
instance : Go1 (T P r c L .skip Q E) (TQ r c L Q .normal E) := ⟨T.skip⟩
instance {l : Nat} : Go1 (T P r c L (.label l) Q E) (TQ r c L Q .normal E) := ⟨T.label⟩
instance {i : Nat} : Go1 (T P r c L (.exit i) Q E) (TQ r c L Q (.exit i) E) := ⟨T.exit⟩
instance : Go1 (T P r c L .ret Q E) (TQ r c L Q .ret E) := ⟨T.ret⟩
instance {id : Nat} {l : List Oper} : Go1 (T P r c L (.region id l.toArray false) Q E) (TO P r c L l.toArray Q l E) := ⟨T.reg⟩
instance {ops : Array Oper} : Go1 (TO P r c L ops Q [] E) (TQ r c L Q .normal E) := ⟨TO.nil⟩
instance {y : Code} : Go1 (TQ r c L (thenQ P r y Q) .normal E) (T P r c L y Q E) := ⟨TQ.nn⟩
instance {y : Code} {i : Nat} : Go1 (TQ r c L (thenQ P r y Q) (.exit i) E) (TQ r c L Q (.exit i) E) := ⟨TQ.ne⟩
instance {y : Code} : Go1 (TQ r c L (thenQ P r y Q) .ret E) (TQ r c L Q .ret E) := ⟨TQ.nr⟩
instance {id : Nat} : Go1 (TQ r c L (blockQ id Q) .normal E) (TQ r c L Q .normal E) := ⟨TQ.bn⟩
instance {id : Nat} : Go1 (TQ r c L (blockQ id Q) (.exit id) E) (TQ r c L Q .normal E) := ⟨TQ.be⟩
instance {id : Nat} : Go1 (TQ r c L (blockQ id Q) .ret E) (TQ r c L Q .ret E) := ⟨TQ.br⟩
instance {S : Type} {n : Nat} {sl : S → List (Nat × Value)} {H : S → List Assn} {I : S → Prop} {μ : S → Nat} {s : S} {i : Nat} : Go1 (TQ r c L (loopQ r c n sl H I μ s Q) (.exit i) E) (TQ r c L Q (.exit i) E) := ⟨TQ.le⟩
instance {S : Type} {n : Nat} {sl : S → List (Nat × Value)} {H : S → List Assn} {I : S → Prop} {μ : S → Nat} {s : S} : Go1 (TQ r c L (loopQ r c n sl H I μ s Q) .ret E) (TQ r c L Q .ret E) := ⟨TQ.lr⟩
instance {S : Type} {n : Nat} {sl : S → List (Nat × Value)} {H : S → List Assn} {I : S → Prop} {i : Nat} : Go1 (TQ r c L (cutQ r c n sl H I Q) (.exit i) E) (TQ r c L Q (.exit i) E) := ⟨TQ.ce⟩
instance {S : Type} {n : Nat} {sl : S → List (Nat × Value)} {H : S → List Assn} {I : S → Prop} : Go1 (TQ r c L (cutQ r c n sl H I Q) .ret E) (TQ r c L Q .ret E) := ⟨TQ.cr⟩
/-- Conditions. -/
theorem T.cB {x : Operand} {a b : Code} {t : Bool} (hc : E.eval x = .bool t) (h : (t = true → T P r c L a Q E) ∧ (t = false → T P r c L b Q E)) : T P r c L (.cond x a b) Q E := T.condB hc h.1 h.2
theorem T.cD {x : Operand} {a b : Code} {p : Prop} {inst : Decidable p} (hc : E.eval x = .bool (@decide p inst)) (h : (p → T P r c L a Q E) ∧ (¬ p → T P r c L b Q E)) : T P r c L (.cond x a b) Q E := T.condD hc h.1 h.2
section
variable {nt : Nat} {l : List (Nat × Value)} {gb : Nat → Value} {ops : Array Oper} {rest : List Oper} {o : Oper} {j t : Nat} {want : Bool}
theorem TO.gS {b : Bool} (hg : o.guard = some (j, want)) (ht : nthDst ops.toList j = some t) (hv : Env.get ⟨nt, l, gb⟩ t = .bool b)
    (h : (b = true → TO P r c L ops Q (o :: rest) ⟨nt, (t, .bool true) :: l, gb⟩) ∧ (b = false → TO P r c L ops Q (o :: rest) ⟨nt, (t, .bool false) :: l, gb⟩)) : TO P r c L ops Q (o :: rest) ⟨nt, l, gb⟩ := TO.gs hg ht hv h.1 h.2
theorem TO.gD {p : Prop} {inst : Decidable p} (hg : o.guard = some (j, want)) (ht : nthDst ops.toList j = some t) (hv : Env.get ⟨nt, l, gb⟩ t = .bool (@decide p inst))
    (h : (p → TO P r c L ops Q (o :: rest) ⟨nt, (t, .bool true) :: l, gb⟩) ∧ (¬ p → TO P r c L ops Q (o :: rest) ⟨nt, (t, .bool false) :: l, gb⟩)) : TO P r c L ops Q (o :: rest) ⟨nt, l, gb⟩ := TO.gd hg ht hv h.1 h.2
end

/-! ### What follows from what, by instances -/
class DelC (A : Assn) (L : List Assn) (R : outParam (List Assn)) : Prop where h : Del A L R
instance (priority := 1100) {A : Assn} {L : List Assn} : DelC A (A :: L) L := ⟨.head _ _⟩
instance {A B : Assn} {L R : List Assn} [h : DelC A L R] : DelC A (B :: L) (B :: R) := ⟨.tail h.h⟩
class ImC (L L' : List Assn) : Prop where h : Imp L L'
instance (priority := 1200) {L : List Assn} : ImC L L := ⟨Imp.refl L⟩
instance (priority := 1100) {L R : List Assn} [h : ImC L R] : ImC L ([] ++ R) := ⟨h.h⟩
instance (priority := 1100) {A : Assn} {L M l R : List Assn} [h1 : DelC A L M] [h2 : ImC M (l ++ R)] : ImC L ((A :: l) ++ R) := ⟨Imp.pull h1.h h2.h⟩
instance (priority := 1050) {A : Assn} {L M R : List Assn} [h1 : DelC A L M] [h2 : ImC M R] : ImC L (A :: R) := ⟨Imp.pull h1.h h2.h⟩
instance {L : List Assn} : ImC L [] := ⟨Imp.nil L⟩
instance (priority := 500) {A : Assn} {L R : List Assn} [h : ImC L R] : ImC (A :: L) R := ⟨Imp.drop h.h⟩
theorem Ent.ic {L' : List Assn} [h : ImC L L'] : Ent c L L' := Ent.imp h.h

/-! ### The end of a function -/
def rvF (E : Env) : List ResultVar → Option (List Value)
  | [] => some []
  | .tmp t :: rs => fo (E.get t) fun v => match rvF E rs with | some vs => some (v :: vs) | none => none
  | .cell _ _ :: _ => none
theorem rvF_ok {E : Env} : ∀ {rs : List ResultVar} {vs : List Value}, rvF E rs = some vs → RV P c L E rs vs
  | [], vs, h => by simp only [rvF, Option.some.injEq] at h; exact h.symm
  | .tmp t :: rs, vs, h => by
    simp only [rvF, fo_eq] at h
    split at h
    · rename_i us h1
      cases h
      exact ⟨rfl, rvF_ok h1⟩
    · cases h
  | .cell _ _ :: _, _, h => by simp [rvF] at h
/-- What is left to show at the end. -/
def Fini (c : Ctx) (L R : List Assn) (B : Value → List Assn → Prop) (u : Value) : Prop := ∃ L', B u L' ∧ Ent c L (L' ++ R)
theorem TQ.fin {fn : Func} {R : List Assn} {B : Value → List Assn → Prop} {C : List PanicEntry → List Assn → Prop} {rs : List ResultVar} {vs : List Value} (h : Fini c L R B (asResult vs)) (hr : fn.results = rs.toArray := by rfl) (hv : rvF E rs = some vs := by conv => lhs; whnf) : TQ R0 c L (retQ P fn c R B C) .ret E := by
  have h1 := rvF_ok (P := P) (c := c) (L := L) hv
  obtain ⟨L', h3, h4⟩ := h
  exact TQ.ret hr h1 h3 h4
theorem TQ.finN {fn : Func} {R : List Assn} {B : Value → List Assn → Prop} {C : List PanicEntry → List Assn → Prop} {rs : List ResultVar} {vs : List Value} (h : Fini c L R B (asResult vs)) (hr : fn.results = rs.toArray := by rfl) (hv : rvF E rs = some vs := by conv => lhs; whnf) : TQ R0 c L (retQ P fn c R B C) .normal E := by
  have h1 := rvF_ok (P := P) (c := c) (L := L) hv
  obtain ⟨L', h3, h4⟩ := h
  exact TQ.end hr h1 h3 h4
theorem Fini.mk {R L' : List Assn} {B : Value → List Assn → Prop} {u : Value} (h : B u L') [he : ImC L (L' ++ R)] : Fini c L R B u := ⟨L', h, Ent.imp he.h⟩
theorem Fini.of {R L' : List Assn} {B : Value → List Assn → Prop} {u : Value} (h : B u L') (he : Imp L (L' ++ R)) : Fini c L R B u := ⟨L', h, Ent.imp he⟩

theorem Fini.one {R : List Assn} {X : Assn} {B : Value → List Assn → Prop} {u : Value} (h : B u [X]) (he : Imp L (X :: R)) : Fini c L R B u := ⟨[X], h, Ent.imp he⟩
/-- .. packed -/
theorem Fini.sh {R : List Assn} {α : Type} {p : α → Prop} {Ls : α → List Assn} {B : Value → List Assn → Prop} {u : Value} (h : B u [exA p Ls]) (a : α) (hp : p a) [he : ImC L (Ls a ++ R)] : Fini c L R B u := Fini.one h (Imp.shutA a hp he.h)

/-! ### Calls -/
class FnR (P : Program) (f : FuncId) (args : List Value) (L : List Assn) (W : outParam ((Value → List Assn → Prop) → Prop)) : Prop where
  go : ∀ k : Value → List Assn → Prop, W k → ∃ A R B, Sat P f args A B ∧ Pick A L R ∧ ∀ v L', B v L' → k v (L' ++ R)
class Cal (P : Program) (f : FuncId) : Prop where h : ∀ args w, (callFunc f args).run P w = .ok (.enter f args) w
theorem FnR.of {f : FuncId} {args : List Value} {W : (Value → List Assn → Prop) → Prop} (h : ∀ k, W k → ∃ A R B, Sat P f args A B ∧ Pick A L R ∧ ∀ v L', B v L' → k v (L' ++ R)) : FnR P f args L W := ⟨h⟩
class AppL (a b : List Value) (l : outParam (List Value)) : Prop where h : a ++ b = l
instance {b : List Value} : AppL [] b b := ⟨rfl⟩
instance {x : Value} {a b l : List Value} [h : AppL a b l] : AppL (x :: a) b (x :: l) := ⟨by rw [← h.h]; rfl⟩
instance {f : FuncId} {xs ys args as1 as2 : List Value} {W : (Value → List Assn → Prop) → Prop} [hc : Cal P f] [ha : AppL args ys as1] [hb : AppL xs as1 as2] [h : FnR P f as2 L W] : St P c L (.call (.func (.func f) xs.toArray ys.toArray) args) W :=
  ⟨fun r E d op ty pos af g hs k hk => by
    cases hs with | call e1 e2 =>
    obtain ⟨A, R, B, h1, h2, h3⟩ := h.go k hk
    rw [← hb.h, ← ha.h, ← List.append_assoc] at h1
    exact (N.call e1 h1 hc.h e2 h2).imp fun v L' hq => by obtain ⟨L1, h4, h5⟩ := hq; rw [← h5]; exact h3 v L1 h4⟩
instance (priority := 1100) {f : FuncId} {args : List Value} {W : (Value → List Assn → Prop) → Prop} [hc : Cal P f] [h : FnR P f args L W] : St P c L (.call (.func (.func f) #[] #[]) args) W :=
  ⟨fun r E d op ty pos af g hs k hk => by
    cases hs with | call e1 e2 =>
    obtain ⟨A, R, B, h1, h2, h3⟩ := h.go k hk
    exact (N.call (first := []) (cap := []) e1 (by simpa using h1) hc.h e2 h2).imp fun v L' hq => by obtain ⟨L1, h4, h5⟩ := hq; rw [← h5]; exact h3 v L1 h4⟩

/-! ### Loops: what is kept besides -/
theorem T.lp (id : Nat) {n : Nat} {l0 : List (Nat × Value)} {g0 : Nat → Value} {S : Type} {x : Code} (K : List (Nat × Value)) (s0 : S) (sl : S → List (Nat × Value)) (H : S → List Assn) (I : S → Prop) (μ : S → Nat)
    (hK : Env.has ⟨n, l0, g0⟩ K) (hsl : Env.has ⟨n, l0, g0⟩ (sl s0)) (hI : I s0) (hL : Ent c L (H s0))
    (round : ∀ s g, I s → T P r c (H s) x (loopQ r c n (fun s => sl s ++ K) H I μ s (blockQ id Q)) ⟨n, sl s ++ K, g⟩) : T P r c L (.block id (.loop x)) Q ⟨n, l0, g0⟩ := by
  refine T.block (T.loop s0 (fun s => sl s ++ K) H I μ ?_ hI hL round)
  have key : ∀ (l : List (Nat × Value)), Env.has ⟨n, l0, g0⟩ l → Env.has ⟨n, l0, g0⟩ (l ++ K) := by
    intro l
    induction l with
    | nil => exact fun _ => hK
    | cons p l ih => exact fun h => ⟨h.1, ih h.2⟩
  exact key _ hsl
theorem TQ.rd {S : Type} {n : Nat} {sl : S → List (Nat × Value)} {H : S → List Assn} {I : S → Prop} {μ : S → Nat} {s : S} (s' : S)
    (hn : E.n = n) (hsl : E.has (sl s')) (hI : I s') (hμ : μ s' < μ s) (hL : Ent c L (H s')) : TQ r c L (loopQ r c n sl H I μ s Q) .normal E := TQ.round s' hn hsl hI hμ hL

/-! ### A join: a region that yields a truth value -/
def mrgQ (r : Rd) (c : Ctx) (L : List Assn) (n : Nat) (l : List (Nat × Value)) (g : Nat → Value) (D : List Nat) (d : Nat) (b : Bool) : Exit → Env → Rd → World → Prop
  | .normal, E, r', w => r' = r ∧ (∃ new, E = ⟨n, new ++ l, g⟩ ∧ (∀ p ∈ new, p.1 ∈ D) ∧ E.get d = .bool b) ∧ SL c L w
  | _, _, _, _ => False
def disj (D : List Nat) : List (Nat × Value) → Bool
  | [] => true
  | p :: l => !D.elem p.1 && disj D l
theorem look_app (a b : List (Nat × Value)) (t : Nat) (v : Value) : look (a ++ b) t v = look a t (look b t v) := by
  induction a with
  | nil => rfl
  | cons p a ih =>
    obtain ⟨k, u⟩ := p
    simp only [List.cons_append, look, ih]
theorem look_nk {a : List (Nat × Value)} {D : List Nat} (h : ∀ p ∈ a, p.1 ∈ D) {t : Nat} (ht : t ∉ D) (v : Value) : look a t v = v := by
  induction a with
  | nil => rfl
  | cons p a ih =>
    obtain ⟨k, u⟩ := p
    have h1 := h (k, u) (by simp)
    have hb : Nat.beq k t = false := by
      cases hh : Nat.beq k t with
      | false => rfl
      | true => exact absurd (Nat.eq_of_beq_eq_true hh ▸ h1) ht
    simp only [look, hb, cond_false]
    exact ih fun p hp => h p (by simp [hp])
theorem disj_nk {D : List Nat} : ∀ {l : List (Nat × Value)}, disj D l = true → ∀ {t : Nat}, t ∈ D → ∀ v, look l t v = v
  | [], _, _, _, _ => rfl
  | (k, u) :: l, h, t, ht, v => by
    simp only [disj, Bool.and_eq_true, Bool.not_eq_true'] at h
    have hb : Nat.beq k t = false := by
      cases hh : Nat.beq k t with
      | false => rfl
      | true =>
        have e := Nat.eq_of_beq_eq_true hh
        subst e
        have : D.elem k = true := by simpa using ht
        rw [this] at h; cases h.1
    simp only [look, hb, cond_false]
    exact disj_nk h.2 ht v
theorem T.mrg (id : Nat) (d : Nat) (p : Prop) [inst : Decidable p] (D : List Nat) {dr : Bool} {ops : Array Oper} {y : Code} {n : Nat} {l : List (Nat × Value)} {g : Nat → Value}
    (h1 : T P r c L (.region id ops dr) (mrgQ r c L n l g D d (decide p)) ⟨n, l, g⟩)
    (h2 : ∀ g', T P r c L y Q ⟨n, (d, .bool (decide p)) :: l, g'⟩) (hd : disj D l = true := by rfl) (hdD : D.elem d = true := by rfl) (hdn : Nat.ble n d = false := by rfl) : T P r c L (.seq (.region id ops dr) y) Q ⟨n, l, g⟩ := by
  refine T.seq ?_
  unfold T at *
  intro w hw
  refine wpIn_mono (h1 w hw) ?_
  rintro e a w' ⟨E', r', rfl, hq⟩
  cases e with
  | normal =>
    obtain ⟨rfl, ⟨new, rfl, hn, hg⟩, hw'⟩ := hq
    refine ⟨⟨n, (d, .bool (decide p)) :: l, fun t => look new t (g t)⟩, r', ?_, h2 _ w' hw'⟩
    refine Env.acd_congr ?_ _
    unfold Env.act
    congr 1
    apply Array.ext
    · simp
    · intro i k1 k2
      simp only [Array.size_ofFn] at k1
      simp only [Array.getElem_ofFn, look_app, look]
      cases hh : Nat.beq d i with
      | true =>
        have e := Nat.eq_of_beq_eq_true hh
        subst e
        simp only [Env.get, hdn, cond_false, look_app] at hg
        simpa using hg
      | false =>
        simp only [cond_false]
        by_cases hi : i ∈ D
        · rw [disj_nk hd hi, disj_nk hd hi]
        · rw [look_nk hn hi, look_nk hn hi]
  | _ => exact hq.elim
theorem TQ.mg {n d : Nat} {l : List (Nat × Value)} {g : Nat → Value} {D : List Nat} {p : Prop} {inst : Decidable p} {L' : List Assn} (new : List (Nat × Value)) (b : Bool) (hE : E = ⟨n, new ++ l, g⟩) (hn : new.all (fun p => D.elem p.1) = true) (hb : E.get d = .bool b) (hp : @decide p inst = b) (hL : Ent c L L') : TQ r c L (mrgQ r c L' n l g D d (@decide p inst)) .normal E := by
  unfold TQ
  intro w hw
  refine ⟨rfl, ⟨new, hE, fun q hq => ?_, by rw [hb, hp]⟩, hL w hw⟩
  have := List.all_eq_true.1 hn q hq
  simpa using this
end
attribute [irreducible] Fini
end Pw


namespace Pw
open Go MapKept
theorem eraseIdx_map' {α β : Type} (f : α → β) (l : List α) (i : Nat) : (l.map f).eraseIdx i = (l.eraseIdx i).map f := by
  apply List.ext_getElem?
  intro j
  simp only [List.getElem?_eraseIdx, List.getElem?_map]
  split <;> rfl
/-! ## Maps by numbers -/
section
variable {P : Program} {r : Rd} {c : Ctx} {L : List Assn} {E : Env} {d : Option Tmp} {ty : TypeId} {pos : String} {af : Array Edge} {g : Option (Nat × Bool)}
theorem SL.mapI_open {k : IntKind} {b : Nat} {l : List (Nat × Value)} {w : World} {R : List Assn} (h : SL c (mapI k b l :: R) w) : ∃ es clock, kvI k es.toList l ∧ SL c (pt b (.map es clock) :: R) w := by
  obtain ⟨e1, e2, e3, f1, f2, hd, k1, k2, ⟨es, clock, h1, h2⟩, hl⟩ := h
  exact ⟨es, clock, h2, e1, e2, e3, f1, f2, hd, k1, k2, h1, hl⟩
theorem SL.mapI_shut {k : IntKind} {b : Nat} {l : List (Nat × Value)} {es : Array MapEntry} {clock : Nat} {w : World} {R : List Assn} (hk : kvI k es.toList l) (h : SL c (pt b (.map es clock) :: R) w) : SL c (mapI k b l :: R) w := by
  obtain ⟨e1, e2, e3, f1, f2, hd, k1, k2, ha, hl⟩ := h
  exact ⟨e1, e2, e3, f1, f2, hd, k1, k2, ⟨es, clock, ha, hk⟩, hl⟩
theorem N.mmk {t : TypeId} (k : IntKind) : N P r c L E ⟨d, .makeMap t none, ty, pos, af, g⟩ (fun v L' => ∃ b, v = .map (some b) ∧ L' = mapI k b [] :: L) := by
  refine N.value (fun _ => by simp) fun w hw => ?_
  refine ⟨.map (some w.heap.size), _, w.alloc (.map #[] 0), ?_, ⟨w.heap.size, rfl, rfl⟩, SL.mapI_shut (es := #[]) (clock := 0) rfl (hw.alloc _)⟩
  simp [execOp, Instr.makeMap, Result.andThen]
theorem D.mln {x : Operand} {b : Nat} {k : IntKind} {l : List (Nat × Value)} {t kt et : TypeId} (hx : E.eval x = .map (some b)) (ht : P.underlying t = some (.map kt et)) (hm : LMem (mapI k b l) L) :
    D P c L E ⟨d, .call ⟨.builtin .len, #[x], #[t]⟩, ty, pos, af, g⟩ (.int .i64 (l.length : Nat)) :=
  D.mkW (fun _ => by simp) (fun w hw => by
    obtain ⟨es, clock, hb, hkv⟩ := hw.mapI_at hm
    have := hkv.len
    simp at this
    have h1 := MapKept.run_getObj_map (P := P) hb; simp [execOp, resolve, invoke, builtin, hx, Builtin.len_, run_underlying ht, goInt, h1, this])
theorem kvI.set {k : IntKind} {es : List MapEntry} {l : List (Nat × Value)} (h : kvI k es l) {n : Nat} {v : Value} {x : Nat × Value} (hp : posI l n = some x) : kvI k (es.modify x.1 fun e => { e with key := .int k n, val := v }) (l.set x.1 (n, v)) := by
  have hx := posI_lt hp
  unfold kvI at *
  apply List.ext_getElem?
  intro i
  have hi := congrArg (fun z => z[i]?) h
  simp only [List.getElem?_map, List.getElem?_modify, List.getElem?_set] at hi ⊢
  by_cases hxi : x.1 = i
  · subst hxi
    simp only [if_true]
    have hlt : x.1 < l.length := by
      rcases Nat.lt_or_ge x.1 l.length with h5 | h5
      · exact h5
      · rw [List.getElem?_eq_none h5] at hx; cases hx
    rw [hx] at hi
    cases he : es[x.1]? with
    | none => rw [he] at hi; cases hi
    | some e => simp [hlt]
  · simp only [hxi, if_false, id] at hi ⊢
    cases he : es[i]? <;> simp [he] at hi ⊢ <;> exact hi
theorem kvI.push {k : IntKind} {es : List MapEntry} {l : List (Nat × Value)} (h : kvI k es l) {n : Nat} {v : Value} {cl : Nat} : kvI k (es ++ [{ key := .int k n, val := v, born := cl }]) (l ++ [(n, v)]) := by
  unfold kvI at *
  simp [h]
theorem kvI.erase {k : IntKind} {es : List MapEntry} {l : List (Nat × Value)} (h : kvI k es l) (i : Nat) : kvI k (es.eraseIdx i) (l.eraseIdx i) := by
  unfold kvI at *
  rw [← eraseIdx_map', ← eraseIdx_map', h]
theorem eraseIf (es : Array MapEntry) (i : Nat) : (es.eraseIdxIfInBounds i).toList = es.toList.eraseIdx i := by
  unfold Array.eraseIdxIfInBounds
  split
  · simp
  · rw [List.eraseIdx_of_length_le (by simp; omega)]
theorem N.mup {x y z : Operand} {b n : Nat} {k : IntKind} {l : List (Nat × Value)} {v : Value} {t kt et : TypeId} {R : List Assn} (hx : E.eval x = .map (some b)) (hy : E.eval y = .int k n) (hz : E.eval z = v) (ht : P.underlying t = some (.map kt et)) (hk : P.underlying kt = some (.int k)) (hm : Del (mapI k b l) L R) :
    N P r c L E ⟨d, .mapUpdate t x y z, ty, pos, af, g⟩ (fun u L' => u = undef ∧ L' = mapI k b (putI l n v) :: R) := by
  refine N.skip (fun _ => by simp) fun w hw => ?_
  obtain ⟨es, clock, hkv, hw1⟩ := (hw.perm hm.perm).mapI_open
  have hb := hw1.heap (.head _ _)
  have hf := run_findKey (P := P) (w := w) hk (findNow_int (k0 := k) n 0 hkv)
  have hc := run_checkKey (P := P) (w := w) (k := .int k n) hk (by simp [IsKey]) false 9999
  unfold putI
  cases hp : posI l n with
  | none =>
    refine ⟨{ w with heap := w.heap.setIfInBounds b (.map (es.push { key := .int k n, val := v, born := clock }) (clock + 1)) }, ?_, SL.mapI_shut (es := es.push { key := .int k n, val := v, born := clock }) (clock := clock + 1) (by simpa using hkv.push (n := n) (v := v) (cl := clock)) (hw1.setObj rfl rfl rfl (heap_set hb).1 (heap_set hb).2)⟩
    rw [hp] at hf
    simp only [execOp, hx, hy, hz, Instr.mapUpdate, Sem.run_bind, run_underlying ht, Result.andThen_ok, MapKept.run_getObj_map hb, Sem.run_pure, hc, hf, Option.map_none, run_setObj_map _ hb]
  | some q =>
    obtain ⟨e, he, hek, _⟩ := hkv.get (posI_lt hp)
    refine ⟨{ w with heap := w.heap.setIfInBounds b (.map (es.modify q.1 fun e => { e with key := .int k n, val := v }) clock) }, ?_, SL.mapI_shut (es := es.modify q.1 fun e => { e with key := .int k n, val := v }) (clock := clock) (by simpa using hkv.set (v := v) hp) (hw1.setObj rfl rfl rfl (heap_set hb).1 (heap_set hb).2)⟩
    rw [hp] at hf
    have he' : es[q.1]? = some e := by simpa using he
    have h1 : (Instr.keyThatStays (((es[q.1]?).map (·.key)).getD (.int k n)) (.int k n)).run P w = .ok (.int k n) w := by
      rw [he']; simp only [Option.map_some, Option.getD_some]; rw [hek]; exact run_keyThatStays (P := P) (w := w) (d := .int k) (by simp [IsKey])
    simp only [execOp, hx, hy, hz, Instr.mapUpdate, Sem.run_bind, run_underlying ht, Result.andThen_ok, MapKept.run_getObj_map hb, Sem.run_pure, hc, hf, Option.map_some, Nat.zero_add, h1, run_setObj_map _ hb]
theorem N.mdl {x y : Operand} {b n : Nat} {k : IntKind} {l : List (Nat × Value)} {t t2 kt et : TypeId} {R : List Assn} (hx : E.eval x = .map (some b)) (hy : E.eval y = .int k n) (ht : P.underlying t = some (.map kt et)) (hk : P.underlying kt = some (.int k)) (hm : Del (mapI k b l) L R) :
    N P r c L E ⟨d, .call ⟨.builtin .delete, #[x, y], #[t, t2]⟩, ty, pos, af, g⟩ (fun u L' => u = .tuple #[] ∧ L' = mapI k b (delI l n) :: R) := by
  refine N.value (fun _ => by simp) fun w hw => ?_
  obtain ⟨es, clock, hkv, hw1⟩ := (hw.perm hm.perm).mapI_open
  have hb := hw1.heap (.head _ _)
  have hf := run_findKey (P := P) (w := w) hk (findNow_int (k0 := k) n 0 hkv)
  have hc := run_checkKey (P := P) (w := w) (k := .int k n) hk (by simp [IsKey]) es.isEmpty 9999
  unfold delI
  cases hp : posI l n with
  | none =>
    refine ⟨_, _, { w with heap := w.heap.setIfInBounds b (.map es clock) }, ?_, ⟨rfl, rfl⟩, SL.mapI_shut hkv (hw1.setObj rfl rfl rfl (heap_set hb).1 (heap_set hb).2)⟩
    rw [hp] at hf
    simp [execOp, resolve, invoke, builtin, hx, hy, Builtin.delete_, run_underlying ht, MapKept.run_getObj_map hb, hc, hf, run_setObj_map _ hb]
  | some q =>
    refine ⟨_, _, { w with heap := w.heap.setIfInBounds b (.map (es.eraseIdxIfInBounds q.1) clock) }, ?_, ⟨rfl, rfl⟩, SL.mapI_shut (by rw [eraseIf]; exact hkv.erase q.1) (hw1.setObj rfl rfl rfl (heap_set hb).1 (heap_set hb).2)⟩
    rw [hp] at hf
    simp [execOp, resolve, invoke, builtin, hx, hy, Builtin.delete_, run_underlying ht, MapKept.run_getObj_map hb, hc, hf, run_setObj_map _ hb]
end

/-- Maps whose values are pointers. -/
abbrev pv (p : Nat) : Value := .pointer (some ⟨p, 0, none⟩)
def mapP (b : Nat) (x : IntKind × List (Nat × Nat)) : Assn := mapI x.1 b (x.2.map fun q => (q.1, pv q.2))
def atP (l : List (Nat × Nat)) (n : Nat) : Option Nat := (l.find? fun q => decide (q.1 = n)).map (·.2)
def putP (l : List (Nat × Nat)) (n v : Nat) : List (Nat × Nat) := match l.findIdx? (fun q => decide (q.1 = n)) with | some i => l.set i (n, v) | none => l ++ [(n, v)]
def delP (l : List (Nat × Nat)) (n : Nat) : List (Nat × Nat) := match l.findIdx? (fun q => decide (q.1 = n)) with | some i => l.eraseIdx i | none => l
theorem posI_mapP (n : Nat) (f : Nat → Value) : ∀ l : List (Nat × Nat), posI (l.map fun q => (q.1, f q.2)) n = (l.findIdx? fun q => decide (q.1 = n)).bind fun i => (l[i]?).map fun q => (i, f q.2)
  | [] => rfl
  | (a, p) :: l => by
    simp only [List.map_cons, posI, posI_mapP n f l, List.findIdx?_cons]
    by_cases h : a = n
    · simp [h]
    · simp only [h, decide_false, if_false]
      cases l.findIdx? fun q => decide (q.1 = n) with
      | none => simp
      | some i => simp; rfl
theorem atI_mapP (l : List (Nat × Nat)) (n : Nat) : atI (l.map fun q => (q.1, pv q.2)) n = (atP l n).map pv := by
  unfold atI atP
  rw [posI_mapP n pv]
  induction l with
  | nil => rfl
  | cons a l ih =>
    rw [List.findIdx?_cons, List.find?_cons]
    by_cases h : a.1 = n
    · simp [h]
    · simp only [h, decide_false, if_false]
      rw [← ih]
      cases l.findIdx? (fun q => decide (q.1 = n)) with
      | none => rfl
      | some i => simp; rfl
theorem putI_mapP (l : List (Nat × Nat)) (n p : Nat) : putI (l.map fun q => (q.1, pv q.2)) n (pv p) = (putP l n p).map fun q => (q.1, pv q.2) := by
  unfold putI putP
  rw [posI_mapP n pv]
  cases h : l.findIdx? fun q => decide (q.1 = n) with
  | none => simp
  | some i =>
    have hi := (List.findIdx?_eq_some_iff_getElem.1 h).1
    simp [hi, List.map_set]
theorem delI_mapP (l : List (Nat × Nat)) (n : Nat) : delI (l.map fun q => (q.1, pv q.2)) n = (delP l n).map fun q => (q.1, pv q.2) := by
  unfold delI delP
  rw [posI_mapP n pv]
  cases h : l.findIdx? fun q => decide (q.1 = n) with
  | none => simp
  | some i =>
    have hi := (List.findIdx?_eq_some_iff_getElem.1 h).1
    simp [hi, eraseIdx_map']
section
variable {P : Program} {r : Rd} {c : Ctx} {L R : List Assn} {t kt et : TypeId} {k : IntKind} {b : Nat} {l : List (Nat × Nat)} {x : Int} {n : Nat}
instance [ht : Und P t (.map kt et)] [hk : Und P kt (.int k)] : St P c L (.mkMap t) (fun q => ∀ b, q (.map (some b)) (mapP b (k, []) :: L)) :=
  ⟨fun r E d op ty pos af g hs q hq => by cases hs with | mkMap => exact (N.mmk k).imp fun v L' ⟨b, h1, h2⟩ => by rw [h1, h2]; exact hq b⟩
instance [ht : Und P t (.map kt et)] [hk : Und P kt (.int k)] [hz : Zr P et (.pointer none)] [hm : Fam mapP L b (k, l) R] [hn : Nn x n] : Re P c L (.lookup t (.map (some b)) (.int k x) false) (fun q => Opt (atP l n) (q (.pointer none)) (fun p => q (pv p))) :=
  ⟨fun E d op ty pos af g hs q hq => by
    cases hs with | lookup e1 e2 =>
    rw [hn.h] at e2
    refine ⟨_, D.mlk e1 e2 ht.h hk.h hz.h (Del.lmem hm.h), ?_⟩
    rw [atI_mapP]
    rcases hq with ⟨h1, h2⟩ | ⟨p, h1, h2⟩
    · rw [h1]; exact h2
    · rw [h1]; exact h2⟩
instance [ht : Und P t (.map kt et)] [hm : Fam mapP L b (k, l) R] : Re P c L (.builtin .len [.map (some b)] [t]) (fun q => q (.int .i64 (l.length : Nat))) :=
  ⟨fun E d op ty pos af g hs q hq => by
    cases hs with | builtin e =>
    rename_i xs
    match xs, e with
    | [x], ⟨e1, _⟩ => exact ⟨_, D.mln e1 ht.h (Del.lmem hm.h), by simpa using hq⟩⟩
instance {p : Nat} [ht : Und P t (.map kt et)] [hk : Und P kt (.int k)] [hm : Fam mapP L b (k, l) R] [hn : Nn x n] : St P c L (.update t (.map (some b)) (.int k x) (.pointer (some ⟨p, 0, none⟩))) (fun q => q undef (mapP b (k, putP l n p) :: R)) :=
  ⟨fun r E d op ty pos af g hs q hq => by
    cases hs with | update e1 e2 e3 =>
    rw [hn.h] at e2
    exact (N.mup e1 e2 e3 ht.h hk.h hm.h).imp fun v L' h => by
      have e4 : mapI k b (putI (l.map fun q => (q.1, pv q.2)) n (pv p)) = mapP b (k, putP l n p) := congrArg (mapI k b) (putI_mapP l n p)
      rw [h.1, h.2]
      dsimp only
      erw [e4]; exact hq⟩
instance {t2 : TypeId} [ht : Und P t (.map kt et)] [hk : Und P kt (.int k)] [hm : Fam mapP L b (k, l) R] [hn : Nn x n] : St P c L (.builtin .delete [.map (some b), .int k x] [t, t2]) (fun q => q (.tuple #[]) (mapP b (k, delP l n) :: R)) :=
  ⟨fun r E d op ty pos af g hs q hq => by
    cases hs with | builtin e =>
    rename_i xs
    match xs, e with
    | [x1, x2], ⟨e1, e2, _⟩ =>
      rw [hn.h] at e2
      exact (N.mdl e1 e2 ht.h hk.h hm.h).imp fun v L' h => by
        have e4 : mapI k b (delI (l.map fun q => (q.1, pv q.2)) n) = mapP b (k, delP l n) := congrArg (mapI k b) (delI_mapP l n)
        rw [h.1, h.2]
        dsimp only
        rw [e4]; exact hq⟩
end
end Pw


namespace Pw
open Go
/-! ## Many things of one kind -/
/-- The things at the places ps: x at p is of the cells F (x p). -/
def objF {α : Type} (F : α → List Value) (e : TypeId) (ps : List Nat) (x : Nat → α) : Assn := fun f => SLh (ps.map fun p => row e p (F (x p))) f
def upd {α : Type} (f : Nat → α) (p : Nat) (x : α) : Nat → α := fun q => if q = p then x else f q
theorem upd_same {α : Type} (f : Nat → α) (p : Nat) (x : α) : upd f p x p = x := if_pos rfl
theorem upd_ne {α : Type} (f : Nat → α) {p q : Nat} (x : α) (h : q ≠ p) : upd f p x q = f q := if_neg h
class SetF {α : Type} (F : α → List Value) (x : α) (o : Nat) (v : Value) (x' : outParam α) : Prop where h : (F x).set o v = F x' ∧ o < (F x).length
class ObjAt (L : List Assn) (α : outParam Type) (F : outParam (α → List Value)) (e : outParam TypeId) (ps : outParam (List Nat)) (x : outParam (Nat → α)) (R : outParam (List Assn)) : Prop where h : Del (objF F e ps x) L R
section
variable {α : Type} {F : α → List Value} {e : TypeId} {ps : List Nat} {x : Nat → α}
theorem row_apart {e e' : TypeId} {b : Nat} {cs cs' : List Value} {R : List Assn} {f : Frag} (h : SLh (row e b cs :: row e' b cs' :: R) f) : False := by
  obtain ⟨f1, f2, hd, h1, h2, ⟨_, _, ha⟩, g1, g2, _, k1, k2, ⟨_, _, hb⟩, _⟩ := h
  have := k1 b _ hb
  rcases hd b with h | h
  · rw [ha] at h; cases h
  · rw [this] at h; cases h
theorem objF_perm {p : Nat} (hp : p ∈ ps) : ∃ qs, ps.Perm (p :: qs) := ⟨ps.erase p, List.perm_cons_erase hp⟩
theorem Imp.flat {Ls R : List Assn} {X : Assn} (h : ∀ f, X f ↔ SLh Ls f) : Imp (X :: R) (Ls ++ R) := fun f hf => by
  obtain ⟨f1, f2, hd, h1, h2, ha, hl⟩ := hf
  exact SLh.flat hd h1 h2 ((h f1).1 ha) hl
theorem Imp.shut {Ls R : List Assn} {X : Assn} (h : ∀ f, X f ↔ SLh Ls f) : Imp (Ls ++ R) (X :: R) := fun f hf => by
  obtain ⟨f1, f2, hd, h1, h2, ha, hl⟩ := SLh.shut hf
  exact ⟨f1, f2, hd, h1, h2, (h f1).2 ha, hl⟩
/-- One is taken out. -/
theorem objF_open {p : Nat} {qs R : List Assn} (hp : p ∈ ps) : Imp (objF F e ps x :: R) (row e p (F (x p)) :: objF F e (ps.erase p) x :: R) := fun f hf => by
  have h1 := Imp.flat (X := objF F e ps x) (R := R) (fun _ => Iff.rfl) f hf
  have h2 : SLh ((p :: ps.erase p).map (fun p => row e p (F (x p))) ++ R) f := h1.perm (((List.perm_cons_erase hp).map _).append_right _)
  obtain ⟨f1, f2, hd, k1, k2, ha, hl⟩ := h2
  exact ⟨f1, f2, hd, k1, k2, ha, Imp.shut (X := objF F e (ps.erase p) x) (R := R) (fun _ => Iff.rfl) f2 hl⟩
/-- No place stands twice. -/
theorem objF_nodup {R : List Assn} {f : Frag} (hf : SLh (objF F e ps x :: R) f) : ps.Nodup := by
  have h1 := Imp.flat (X := objF F e ps x) (R := R) (fun _ => Iff.rfl) f hf
  clear hf
  induction ps generalizing f with
  | nil => exact List.nodup_nil
  | cons p ps ih =>
    refine List.nodup_cons.2 ⟨fun hp => ?_, ih (f := f) (by simpa using h1.tail)⟩
    have h2 : SLh ((p :: p :: ps.erase p).map (fun p => row e p (F (x p))) ++ R) f := h1.perm ((((List.perm_cons_erase hp).cons p).map _).append_right _)
    exact row_apart h2
theorem objF_apart {R : List Assn} {e' : TypeId} {b : Nat} {cs : List Value} {f : Frag} (hf : SLh (row e' b cs :: objF F e ps x :: R) f) : b ∉ ps := fun hp => by
  obtain ⟨f1, f2, hd, h1, h2, ha, hl⟩ := hf
  have := objF_open (R := R) (qs := []) hp f2 hl
  have h3 : SLh (row e' b cs :: row e b (F (x b)) :: objF F e (ps.erase b) x :: R) f := ⟨f1, f2, hd, h1, h2, ha, this⟩
  exact row_apart h3
theorem objF_congr {y : Nat → α} (h : ∀ p ∈ ps, x p = y p) : objF F e ps x = objF F e ps y := by
  unfold objF
  rw [List.map_congr_left (fun p hp => by rw [h p hp])]
/-- One more. -/
theorem objF_push {b : Nat} {v : α} {R : List Assn} : Imp (row e b (F v) :: objF F e ps x :: R) (objF F e (ps ++ [b]) (upd x b v) :: R) := fun f hf => by
  have hb := objF_apart hf
  obtain ⟨f1, f2, hd, h1, h2, ha, hl⟩ := hf
  have h3 := Imp.flat (X := objF F e ps x) (R := R) (fun _ => Iff.rfl) f2 hl
  have h4 : SLh (row e b (F v) :: ((ps.map fun p => row e p (F (x p))) ++ R)) f := ⟨f1, f2, hd, h1, h2, ha, h3⟩
  refine Imp.shut (X := objF F e (ps ++ [b]) (upd x b v)) (fun _ => Iff.rfl) f ?_
  have e1 : (ps ++ [b]).map (fun p => row e p (F (upd x b v p))) = (ps.map fun p => row e p (F (x p))) ++ [row e b (F v)] := by
    rw [List.map_append]
    congr 1
    · exact List.map_congr_left fun p hp => by rw [upd_ne _ _ (fun h => hb (by rw [← h]; exact hp))]
    · simp [upd_same]
  rw [e1, List.append_assoc]
  exact h4.perm List.perm_middle.symm
/-- One is turned. -/
theorem objF_turn {p : Nat} {v : α} {R : List Assn} {f f' : Frag} (hp : p ∈ ps) (hf : SLh (objF F e ps x :: R) f) (h : ∀ R', SLh (row e p (F (x p)) :: R') f → SLh (row e p (F v) :: R') f') : SLh (objF F e ps (upd x p v) :: R) f' := by
  have hn := objF_nodup hf
  have h1 := h _ (objF_open (qs := []) hp f hf)
  obtain ⟨f1, f2, hd, k1, k2, ha, hl⟩ := h1
  have hl' : SLh (objF F e (ps.erase p) (upd x p v) :: R) f2 := by
    rw [objF_congr (y := x) (fun q hq => upd_ne _ _ (fun h => by subst h; exact hn.not_mem_erase hq))]; exact hl
  have h3 := Imp.flat (X := objF F e (ps.erase p) (upd x p v)) (R := R) (fun _ => Iff.rfl) f2 hl'
  refine Imp.shut (X := objF F e ps (upd x p v)) (fun _ => Iff.rfl) f' ?_
  have h4 : SLh ((p :: ps.erase p).map (fun q => row e q (F (upd x p v q))) ++ R) f' := by
    refine ⟨f1, f2, hd, k1, k2, ?_, h3⟩
    dsimp only
    rw [upd_same]; exact ha
  exact h4.perm (((List.perm_cons_erase hp).symm.map _).append_right _)
instance (priority := 1100) {L : List Assn} : ObjAt (objF F e ps x :: L) α F e ps x L := ⟨.head _ _⟩
instance {A : Assn} {L R : List Assn} [h : ObjAt L α F e ps x R] : ObjAt (A :: L) α F e ps x (A :: R) := ⟨.tail h.h⟩
end
section
variable {P : Program} {r : Rd} {c : Ctx} {L R : List Assn} {α : Type} {F : α → List Value} {e t : TypeId} {ps : List Nat} {x : Nat → α} {b o : Nat} {v : Value}
instance (priority := 900) [hp : Pl P t] [hr : ObjAt L α F e ps x R] [hg : GL (F (x b)) o v] : Re P c L (.load t (.pointer (some ⟨b, o, none⟩))) (fun k => Vc (b ∈ ps) (k v)) :=
  ⟨fun E d op ty pos af g hs k hk => by
    cases hs with | load e1 =>
    refine ⟨_, D.ld (A := objF F e ps x) e1 hp.h (Del.lmem hr.h) ?_, hk.r⟩
    intro f w hf hw
    have h1 := objF_open (R := []) (qs := []) hk.l f ⟨f, fun _ => none, fun _ => .inr rfl, fun _ _ h => h, (fun _ _ (h : none = some _) => nomatch h), hf, trivial⟩
    obtain ⟨f1, _, _, k1, _, ha, _⟩ := h1
    exact Reads.row hg.h f1 w ha fun b o h => hw b o (k1 b o h)⟩
theorem N.stO {E : Env} {d : Option Tmp} {ty : TypeId} {pos : String} {af : Array Edge} {g : Option (Nat × Bool)} {a y : Operand} {v' : α} (hx : E.eval a = .pointer (some ⟨b, o, none⟩)) (hy : E.eval y = v) (hi : P.cellsOf t = 1)
    (hd : Del (objF F e ps x) L R) (hb : b ∈ ps) (hF : (F (x b)).set o v = F v') (ho : o < (F (x b)).length) (hv : v.oneCell' = true) :
    N P r c L E ⟨d, .store t a y, ty, pos, af, g⟩ (fun u L'' => u = undef ∧ L'' = objF F e ps (upd x b v') :: R) := by
  have key := fun (R' : List Assn) => N.st (P := P) (r := r) (c := c) (L := row e b (F (x b)) :: R') (d := d) (ty := ty) (pos := pos) (af := af) (g := g) hx hy hi (.head _ _ _) ho hv
  unfold N at *
  intro w hw K Q hK
  have hw1 := hw.perm hd.perm
  have h2 : SL c (row e b (F (x b)) :: objF F e (ps.erase b) x :: R) w := ⟨hw1.1, hw1.2.1, hw1.2.2.1, objF_open (qs := []) hb _ hw1.2.2.2⟩
  obtain ⟨fr, hfr, hw2⟩ := SL.row h2
  have hbk := hw2.heap (.head _ _)
  have h3 : ∀ w', SL c (objF F e ps (upd x b v') :: R) w' → K ((E.acd r).put d undef) w' := fun w' h => hK undef _ w' ⟨rfl, rfl⟩ h
  refine key (objF F e (ps.erase b) x :: R) w h2 K Q ?_
  rintro u L' w' ⟨rfl, rfl⟩ hw'
  refine h3 w' ⟨hw'.1, hw'.2.1, hw'.2.2.1, ?_⟩
  rw [hF] at hw'
  have hn := objF_nodup hw1.2.2.2
  obtain ⟨f1, f2, hd', k1, k2, ha, hl⟩ := hw'.2.2.2
  have hl' : SLh (objF F e (ps.erase b) (upd x b v') :: R) f2 := by
    rw [objF_congr (y := x) (fun q hq => upd_ne _ _ (fun h => by subst h; exact hn.not_mem_erase hq))]; exact hl
  have h5 := Imp.flat (X := objF F e (ps.erase b) (upd x b v')) (R := R) (fun _ => Iff.rfl) f2 hl'
  refine Imp.shut (X := objF F e ps (upd x b v')) (fun _ => Iff.rfl) _ ?_
  have h4 : SLh ((b :: ps.erase b).map (fun q => row e q (F (upd x b v' q))) ++ R) (fun b => w'.heap[b]?) := by
    refine ⟨f1, f2, hd', k1, k2, ?_, h5⟩
    dsimp only
    rw [upd_same]; exact ha
  exact h4.perm (((List.perm_cons_erase hb).symm.map _).append_right _)
instance (priority := 900) {v' : α} [hz : Sz P t 0] [h1 : One v] [hr : ObjAt L α F e ps x R] [hf : SetF F (x b) o v v'] : St P c L (.store t (.pointer (some ⟨b, o, none⟩)) v) (fun k => Vc (b ∈ ps) (k undef (objF F e ps (upd x b v') :: R))) :=
  ⟨fun r E d op ty pos af g hs k hk => by
    cases hs with | store e1 e2 =>
    exact (N.stO e1 e2 hz.h hr.h hk.l hf.h.1 hf.h.2 h1.h).imp fun _ _ hq => by rw [hq.1, hq.2]; exact hk.r⟩
end
end Pw


namespace Pw
open Go
/-! ## Slices by their elements -/
theorem eA_some (b o j : Nat) : eA (some ⟨b, o, none⟩) j = some ⟨b, o + j, none⟩ := rfl
section
variable {P : Program} {r : Rd} {c : Ctx} {L R : List Assn} {E : Env} {d : Option Tmp} {ty : TypeId} {pos : String} {af : Array Edge} {g : Option (Nat × Bool)}
theorem D.slW {o : Oper} {u : Value} {a : Option Addr} {e : TypeId} {sz n k : Nat} {xs : List Value} (hm : LMem (sl e sz (.slice a n k) n xs) L)
    (h : ∀ w : World, ((n = 0 ∧ xs = []) ∨ ∃ b, a = some ⟨b, 0, none⟩ ∧ xs.length = n * sz ∧ ∀ j x, xs[j]? = some x → w.cell? ⟨b, j, none⟩ = some x) → (execOp E.eval o).run P w = .ok (.value u) w) (hd : ∀ d, o.op ≠ .defer d) : D P c L E o u := by
  unfold D
  refine ⟨hd, fun w hw => h w ?_⟩
  obtain ⟨f1, hsl, hf⟩ := SLh.mem hm hw.2.2.2
  rcases hsl with ⟨_, h0, hx⟩ | ⟨b, k', rest, hv, hl, hr, hrow⟩
  · exact .inl ⟨h0, hx⟩
  · cases hv
    refine .inr ⟨b, rfl, hl, fun j x hx => ?_⟩
    have hj : j < xs.length := by
      rcases Nat.lt_or_ge j xs.length with h | h
      · exact h
      · rw [List.getElem?_eq_none h] at hx; cases hx
    exact Reads.row (e := e) (cs := xs ++ rest) (by rw [List.getElem?_append_left hj]; exact hx) f1 w hrow hf
theorem getS_lt {α : Type} {l : List α} {i : Nat} {x : α} (h : l[i]? = some x) : i < l.length := by
  rcases Nat.lt_or_ge i l.length with h5 | h5
  · exact h5
  · rw [List.getElem?_eq_none h5] at h; cases h
theorem D.iasE {x y : Operand} {a : Option Addr} {n m i sz : Nat} {t e e' : TypeId} {k : IntKind} {xs : List Value} (hx : E.eval x = .slice a n m) (hy : E.eval y = .int k i) (ht : P.underlying t = some (.slice e)) (hz : P.cellsOf e = sz + 1) (hm : LMem (sl e' (sz + 1) (.slice a n m) n xs) L) (hi : i < n) :
    D P c L E ⟨d, .indexAddr t x y, ty, pos, af, g⟩ (.pointer (eA a (i * (sz + 1)))) :=
  D.slW hm (fun w hw => by
    rcases hw with ⟨h0, _⟩ | ⟨b, ha, _, _⟩
    · omega
    · subst ha
      exact (by have := DP.ias (E := E) (P := P) (d := d) (ty := ty) (pos := pos) (af := af) (g := g) hx hy ht hz hi; unfold DP at this; exact this.2 w)) (fun _ => by simp)
theorem D.faE (fo : Nat) {x : Operand} {a : Option Addr} {n j m k i : Nat} {t : TypeId} {fs : Array Field} {f : Field} {e' : TypeId} {sz q : Nat} {xs : List Value} (hx : E.eval x = .pointer (eA a j)) (ht : P.underlying t = some (.struct fs)) (hf : fs[k]? = some f) (hfo : f.offset = fo) (hz : P.cellsOf f.type = m + 1) (hm : LMem (sl e' sz (.slice a n q) n xs) L) (hi : i < n) :
    D P c L E ⟨d, .fieldAddr t x k, ty, pos, af, g⟩ (.pointer (eA a (j + fo))) :=
  D.slW hm (fun w hw => by
    rcases hw with ⟨h0, _⟩ | ⟨b, ha, _, _⟩
    · omega
    · subst ha
      have := DP.fa fo (E := E) (P := P) (d := d) (ty := ty) (pos := pos) (af := af) (g := g) hx ht hf hfo hz
      unfold DP at this
      have h2 := this.2 w
      rw [Nat.add_assoc] at h2
      exact h2) (fun _ => by simp)
theorem D.ldE {x : Operand} {a : Option Addr} {u : Value} {n j k sz : Nat} {t e : TypeId} {xs : List Value} (hx : E.eval x = .pointer (eA a j)) (ht : plainT P t = true) (hm : LMem (sl e sz (.slice a n k) n xs) L) (hu : xs[j]? = some u) : D P c L E ⟨d, .load t x, ty, pos, af, g⟩ u :=
  D.slW hm (fun w hw => by
    rcases hw with ⟨_, h0⟩ | ⟨b, ha, _, hr⟩
    · rw [h0] at hu; cases hu
    · subst ha
      have hc := hr j u hu
      rw [eA_some, Nat.zero_add] at hx
      simp [execOp, hx, Instr.loadAt, Instr.sureAddr, loadVar, run_isAgg_plain ht, hc]) (fun _ => by simp)
theorem D.ldEA {x : Operand} {a : Option Addr} {us : List Value} {n j k sz s : Nat} {t e : TypeId} {xs : List Value} (hx : E.eval x = .pointer (eA a j)) (ht : aggT P t = true) (hs : P.cellsOf t = s + 1) (hm : LMem (sl e sz (.slice a n k) n xs) L) (hu : ∀ i u, us[i]? = some u → xs[j + i]? = some u) (hl : us.length = s + 1) : D P c L E ⟨d, .load t x, ty, pos, af, g⟩ (.agg us.toArray) :=
  D.slW hm (fun w hw => by
    have h1 := hu 0 us[0] (by simp)
    rcases hw with ⟨_, h0⟩ | ⟨b, ha, _, hr⟩
    · rw [h0] at h1; cases h1
    · subst ha
      rw [eA_some, Nat.zero_add] at hx
      have hc := run_loadCells' (P := P) (w := w) (b := b) (o := j) (vs := us) (fun i u hj => hr _ u (hu i u hj))
      rw [hl] at hc
      simp [execOp, hx, Instr.loadAt, Instr.sureAddr, loadVar, run_isAgg_agg ht, run_sizeOf hs, hc]) (fun _ => by simp)
/-- A slice that is held as a source. -/
theorem srcOfSl {sz n k : Nat} {xt e e' : TypeId} {a : Option Addr} {xs : List Value} (ht : P.underlying xt = some (.slice e)) (hm : LMem (sl e' sz (.slice a n k) n xs) L) (hl : xs.length = n * sz) : Src P c L sz xt (.slice a n k) n xs :=
  ⟨⟨_, ht, by simp⟩, fun w => by simp [Builtin.lenOf], fun w hw q hq => by
    obtain ⟨f1, hsl, hf⟩ := SLh.mem hm hw.2.2.2
    rcases hsl with ⟨hv, h0, hx⟩ | ⟨b, k', rest, hv, hl, hr, hrow⟩
    · cases hv; subst hx
      obtain rfl : q = 0 := by omega
      simp [Builtin.firstCells]
    · cases hv
      have h1 : (xs.take (q * sz)).length = q * sz := by rw [List.length_take, hl]; exact Nat.min_eq_left (Nat.mul_le_mul_right _ hq)
      have := run_loadCells' (P := P) (w := w) (b := b) (o := 0) (vs := xs.take (q * sz)) (fun i v hv => by
        have h5 := getS_lt hv
        rw [List.getElem?_take] at hv
        split at hv
        · have h6 := getS_lt hv
          rw [Nat.zero_add]
          exact Reads.row (e := e') (cs := xs ++ rest) (by rw [List.getElem?_append_left h6]; exact hv) f1 w hrow hf
        · cases hv)
      rw [h1] at this
      simp only [Builtin.firstCells]
      by_cases hz : q * sz = 0
      · rw [hz] at this ⊢; simpa using this
      · simpa using this, hl⟩
theorem srcOfSl' {sz n k : Nat} {e' : TypeId} {a : Option Addr} {xs : List Value} {o : Oper} {Φ : Value → List Assn → Prop} (hm : LMem (sl e' sz (.slice a n k) n xs) L) (h : xs.length = n * sz → N P r c L E o Φ) : N P r c L E o Φ := by
  unfold N at *
  intro w hw
  obtain ⟨f1, hsl, hf⟩ := SLh.mem hm hw.2.2.2
  exact h (sl.len hsl) w hw
end
class SlMem (L : List Assn) (v : Value) (e : outParam TypeId) (sz n : outParam Nat) (xs : outParam (List Value)) : Prop where h : LMem (sl e sz v n xs) L
instance (priority := 1100) {L : List Assn} {v : Value} {e : TypeId} {sz n : Nat} {xs : List Value} : SlMem (sl e sz v n xs :: L) v e sz n xs := ⟨.head _ _⟩
instance {A : Assn} {L : List Assn} {v : Value} {e : TypeId} {sz n : Nat} {xs : List Value} [h : SlMem L v e sz n xs] : SlMem (A :: L) v e sz n xs := ⟨.tail h.h⟩
/-- All of one cell each. -/
class OnesL (xs : List Value) : Prop where h : ∀ u ∈ xs, u.oneCell' = true
instance : OnesL [] := ⟨fun _ h => by cases h⟩
instance {a : Value} {l : List Value} [h1 : One a] [h2 : OnesL l] : OnesL (a :: l) := ⟨fun v h => by rcases List.mem_cons.1 h with rfl | h; exact h1.h; exact h2.h v h⟩
instance {α : Type} {f : α → Value} {l : List α} [h : ∀ x, One (f x)] : OnesL (l.map f) := ⟨fun u hu => by obtain ⟨x, _, rfl⟩ := List.mem_map.1 hu; exact (h x).h⟩
instance {α : Type} {f : α → List Value} {l : List α} [h : ∀ x, OnesL (f x)] : OnesL (l.flatMap f) := ⟨fun u hu => by obtain ⟨x, _, hx⟩ := List.mem_flatMap.1 hu; exact (h x).h u hx⟩
instance {l m : List Value} [h1 : OnesL l] [h2 : OnesL m] : OnesL (l ++ m) := ⟨fun u hu => by rcases List.mem_append.1 hu with h | h; exact h1.h u h; exact h2.h u h⟩
/-- What xs with news behind it is, as a list of elements. -/
class AppV (xs news : List Value) (ys : outParam (List Value)) (C : outParam Prop) : Prop where h : C → xs ++ news = ys
instance (priority := 100) {xs news : List Value} : AppV xs news (xs ++ news) True := ⟨fun _ => rfl⟩
class Inv {α : Type} (f : α → Value) (v : Value) (x : outParam α) (C : outParam Prop) : Prop where h : C → f x = v
class InvL {α : Type} (f : α → List Value) (vs : List Value) (x : outParam α) : Prop where h : f x = vs
instance {α : Type} {f : α → Value} {l : List α} {v : Value} {x : α} {C : Prop} [h : Inv f v x C] : AppV (l.map f) [v] ((l ++ [x]).map f) C := ⟨fun hc => by rw [← h.h hc]; simp⟩
instance {α : Type} {f : α → List Value} {l : List α} {vs : List Value} {x : α} [h : InvL f vs x] : AppV (l.flatMap f) vs ((l ++ [x]).flatMap f) True := ⟨fun _ => by rw [← h.h]; simp⟩
instance (priority := 900) {α : Type} {f : α → Value} {l m : List α} : AppV (l.map f) (m.map f) ((l ++ m).map f) True := ⟨fun _ => by simp⟩
instance (priority := 900) {α : Type} {f : α → List Value} {l m : List α} : AppV (l.flatMap f) (m.flatMap f) ((l ++ m).flatMap f) True := ⟨fun _ => by simp⟩
instance (priority := 1050) {α : Type} {f : α → Value} {m : List α} : AppV [] (m.map f) (m.map f) True := ⟨fun _ => by simp⟩
instance (priority := 1050) {α : Type} {f : α → List Value} {m : List α} : AppV [] (m.flatMap f) (m.flatMap f) True := ⟨fun _ => by simp⟩
/-- What xs with its j-th cell turned is. -/
class SetV (xs : List Value) (j : Nat) (v : Value) (ys : outParam (List Value)) (C : outParam Prop) : Prop where h : C → xs.set j v = ys ∧ j < xs.length
instance {α : Type} {f : α → Value} {l : List α} {j : Nat} {v : Value} {x : α} {C : Prop} [h : Inv f v x C] : SetV (l.map f) j v ((l.set j x).map f) (j < l.length ∧ C) := ⟨fun hj => by rw [← h.h hj.2]; simp [List.map_set, hj.1]⟩
instance (priority := 500) {xs ys : List Value} {j : Nat} {v : Value} [h : SLs xs j v ys] : SetV xs j v ys True := ⟨fun _ => h.h⟩
theorem flat_set1 {α : Type} [Inhabited α] {f : α → List Value} {k : Nat} (hf : ∀ x, (f x).length = k) (l : List α) {i o : Nat} (hi : i < l.length) (ho : o < k) {v : Value} {x : α} (hx : (f (gt l i)).set o v = f x) : (l.flatMap f).set (i * k + o) v = (l.set i x).flatMap f := by
  have h1 := gt_get hi
  apply List.ext_getElem?
  intro j
  by_cases hk : k = 0
  · omega
  obtain ⟨q, s, hs, rfl⟩ : ∃ q s, s < k ∧ j = q * k + s := ⟨j / k, j % k, Nat.mod_lt _ (by omega), by rw [Nat.mul_comm]; exact (Nat.div_add_mod j k).symm⟩
  rw [List.getElem?_set, flat_get hf _ _ _ hs, flat_get hf _ _ _ hs, List.getElem?_set]
  by_cases hq : i = q
  · subst hq
    rw [h1]
    simp only [hi, if_true, Option.bind_some]
    rw [← hx, List.getElem?_set]
    by_cases ho' : o = s
    · subst ho'
      have : i * k + o < (l.flatMap f).length := by
        rw [flat_len hf]
        have : (i + 1) * k ≤ l.length * k := Nat.mul_le_mul_right _ hi
        rw [Nat.add_mul] at this; omega
      rw [if_pos rfl, if_pos this]; simp [hf, ho]
    · rw [if_neg (by omega), if_neg ho']
  · have : ¬ (i * k + o = q * k + s) := by
      intro h2
      rcases Nat.lt_or_gt_of_ne hq with h3 | h3
      · have := Nat.mul_le_mul_right k h3
        rw [Nat.succ_mul] at this; omega
      · have := Nat.mul_le_mul_right k h3
        rw [Nat.succ_mul] at this; omega
    rw [if_neg this, if_neg hq]
instance {α : Type} [Inhabited α] {f : α → List Value} {l : List α} {i sz o : Nat} {v : Value} {x : α} [hf : FLen f sz] [hs : SetF f (gt l i) o v x] : SetV (l.flatMap f) (i * sz + o) v ((l.set i x).flatMap f) (i < l.length) :=
  ⟨fun hi => by
    have ho : o < sz := by rw [← hf.h (gt l i)]; exact hs.h.2
    refine ⟨flat_set1 hf.h l hi ho hs.h.1, ?_⟩
    rw [flat_len hf.h]
    have : (i + 1) * sz ≤ l.length * sz := Nat.mul_le_mul_right _ hi
    rw [Nat.add_mul] at this; omega⟩
section
variable {P : Program} {r : Rd} {c : Ctx} {L R : List Assn}
/-! ### the instances -/
instance {x : Int} {t e e' : TypeId} {a : Option Addr} {n m i : Nat} {k : IntKind} {xs : List Value} [ht : Und P t (.slice e)] [hz : Sz P e 0] [hm : SlMem L (.slice a n m) e' 1 n xs] [h1 : Nn x i] : Re P c L (.indexAddr t (.slice a n m) (.int k x)) (fun q => Vc (i < n) (q (.pointer (eA a i)))) :=
  ⟨fun E d op ty pos af g hs q hq => by
    cases hs with | indexAddr e1 e2 =>
    rw [h1.h] at e2
    have := D.iasE (d := d) (ty := ty) (pos := pos) (af := af) (g := g) e1 e2 ht.h hz.h hm.h hq.l (P := P) (c := c)
    rw [Nat.zero_add, Nat.mul_one] at this
    exact ⟨_, this, hq.r⟩⟩
instance (priority := 900) {x : Int} {t e e' : TypeId} {a : Option Addr} {n m i sz sz' : Nat} {k : IntKind} {xs : List Value} [ht : Und P t (.slice e)] [hz : Sz P e sz] [hm : SlMem L (.slice a n m) e' sz' n xs] [h1 : Nn x i] : Re P c L (.indexAddr t (.slice a n m) (.int k x)) (fun q => Vc (sz' = sz + 1 ∧ i < n) (q (.pointer (eA a (i * sz'))))) :=
  ⟨fun E d op ty pos af g hs q hq => by
    cases hs with | indexAddr e1 e2 =>
    rw [h1.h] at e2
    obtain ⟨⟨rfl, hi⟩, hq⟩ := hq
    exact ⟨_, D.iasE e1 e2 ht.h hz.h hm.h hi, hq⟩⟩
instance {t ft e : TypeId} {a : Option Addr} {j k fo n m q sz : Nat} {xs : List Value} {fs : List Field} {nm tg pk : String} {em : Bool} {bo : Nat} [ht : Und P t (.struct fs.toArray)] [hf : GL fs k ⟨nm, ft, fo, em, tg, pk, bo⟩] [hz : Sz P ft m] [hr : ElAt L a e sz n q xs R] : Re P c L (.fieldAddr t (.pointer (eA a j)) k) (fun z => Vc (0 < n) (z (.pointer (eA a (j + fo))))) :=
  ⟨fun E d op ty pos af g hs z hq => by cases hs with | fieldAddr e1 => exact ⟨_, D.faE fo (i := 0) e1 ht.h (by have := hf.h; simpa using this) rfl hz.h (Del.lmem hr.h) hq.l, hq.r⟩⟩
instance {t e : TypeId} {a : Option Addr} {j n k sz : Nat} {xs : List Value} {v : Value} {C : Prop} [hp : Pl P t] [hr : ElAt L a e sz n k xs R] [hv : ElV xs j v C] : Re P c L (.load t (.pointer (eA a j))) (fun q => Vc C (q v)) :=
  ⟨fun E d op ty pos af g hs q hq => by cases hs with | load e1 => exact ⟨_, D.ldE e1 hp.h (Del.lmem hr.h) (hv.h hq.l), hq.r⟩⟩
instance {α : Type} [Inhabited α] {f : α → List Value} {l : List α} {t e : TypeId} {a : Option Addr} {i n k sz s : Nat} [hp : Ag P t] [hz : Sz P t s] [hr : ElAt L a e sz n k (l.flatMap f) R] [hf : FLen f sz] : Re P c L (.load t (.pointer (eA a (i * sz)))) (fun q => Vc (sz = s + 1 ∧ i < l.length) (q (.agg (f (gt l i)).toArray))) :=
  ⟨fun E d op ty pos af g hs q hq => by
    cases hs with | load e1 =>
    obtain ⟨⟨hz2, hi⟩, hq⟩ := hq
    exact ⟨_, D.ldEA e1 hp.h hz.h (Del.lmem hr.h) (flat_elem hf.h (gt_get hi)) (by rw [hf.h, hz2]), hq⟩⟩
/-- append. -/
instance {t xt e e' e'' e2 : TypeId} {a a' : Option Addr} {n k m k' sz sz' sz'' by_ : Nat} {xs news ys zs : List Value} {z : Value} {C : Prop} [ht : Und P t (.slice e)] [hxt : Und P xt (.slice e2)] [hz : Sz P e sz] [hb : By P e by_] [hzr : Zr P e z] [hcz : Cel z zs] [hlz : Len zs (sz + 1)]
    [hd : SlAt L (.slice a n k) e' sz' n xs R] [hm : SlMem L (.slice a' m k') e'' sz'' m news] [ho : OnesL news] [ha : AppV xs news ys C] :
    St P c L (.builtin .append [.slice a n k, .slice a' m k'] [t, xt]) (fun q => Vc (e' = e ∧ sz' = sz + 1 ∧ sz'' = sz + 1 ∧ (n + m) * (by_ + 1) ≤ 140737488355328 ∧ C) (∀ a2 k2, q (.slice a2 (n + m) k2) (sl e (sz + 1) (.slice a2 (n + m) k2) (n + m) ys :: R))) :=
  ⟨fun r E d op ty pos af g hs q hq => by
    cases hs with | builtin ev =>
    rename_i xs_
    obtain ⟨⟨rfl, rfl, rfl, hlim, hC⟩, hq⟩ := hq
    match xs_, ev with
    | [x, y], ⟨e1, e3, _⟩ =>
      refine srcOfSl' hm.h fun hl => ?_
      refine (N.app e1 e3 ht.h hz.h hb.h hzr.h (cellsL_eq z) (by rw [hcz.h]; exact hlz.h) hd.h (srcOfSl hxt.h hm.h hl) ho.h hlim).imp2 fun v L' w h5 hw => ?_
      subst h5
      obtain ⟨a2, k2, rfl⟩ := hw.sl_form
      rw [ha.h hC]
      exact hq a2 k2⟩
end

section
variable {P : Program} {r : Rd} {c : Ctx} {L : List Assn}
instance (priority := 1100) {t e : TypeId} {b o : Nat} {cs : List Value} {v : Value} {C : Prop} [hp : Pl P t] [hr : RowAt L b e cs] [hg : ElV cs o v C] : Re P c L (.load t (.pointer (some ⟨b, o, none⟩))) (fun k => Vc C (k v)) :=
  ⟨fun E d op ty pos af g hs k hk => by cases hs with | load e1 => exact ⟨_, D.ldR e1 hp.h hr.h (hg.h hk.l), hk.r⟩⟩
class PutV (L : List Assn) (b o : Nat) (v : Value) (L' : outParam (List Assn)) (C : outParam Prop) : Prop where h : C → ∃ e cs, Put (row e b cs) L (row e b (cs.set o v)) L' ∧ o < cs.length
instance (priority := 1100) {L : List Assn} {b o : Nat} {v : Value} {e : TypeId} {cs cs' : List Value} {C : Prop} [h : SetV cs o v cs' C] : PutV (row e b cs :: L) b o v (row e b cs' :: L) C := ⟨fun hc => ⟨e, cs, by rw [(h.h hc).1]; exact .head _ _ _, (h.h hc).2⟩⟩
instance {A : Assn} {L L' : List Assn} {b o : Nat} {v : Value} {C : Prop} [h : PutV L b o v L' C] : PutV (A :: L) b o v (A :: L') C := ⟨fun hc => let ⟨e, cs, h1, h2⟩ := h.h hc; ⟨e, cs, .tail h1, h2⟩⟩
instance (priority := 1100) {t : TypeId} {b o : Nat} {v : Value} {L' : List Assn} {C : Prop} [hz : Sz P t 0] [h1 : One v] [hp : PutV L b o v L' C] : St P c L (.store t (.pointer (some ⟨b, o, none⟩)) v) (fun k => Vc C (k undef L')) :=
  ⟨fun r E d op ty pos af g hs k hk => by
    cases hs with | store e1 e2 =>
    obtain ⟨e, cs, h3, h4⟩ := hp.h hk.l
    exact (N.st e1 e2 hz.h h3 h4 h1.h).imp fun _ _ hq => by rw [hq.1, hq.2]; exact hk.r⟩
/-- .. with a number that need not be known -/
class MulA (i n : Nat) (q : outParam Nat) : Prop where h : i * n = q
instance (priority := 1100) {i n q : Nat} [h : MulN i n q] : MulA i n q := ⟨h.h⟩
instance (priority := 100) {i n : Nat} : MulA i n (i * n) := ⟨rfl⟩
/-! ### arrays -/
instance {t e : TypeId} {cs : List Value} {k : IntKind} {x : Int} {i len : Nat} {v : Value} {C : Prop} [ht : Und P t (.array len e)] [hp : Pl P e] [hz : Sz P e 0] [hg : ElV cs i v C] [hx : Nn x i] : Pu P (.index t (.agg cs.toArray) (.int k x)) (fun q => Vc (i < len ∧ C) (q v)) :=
  ⟨fun E d op ty pos af g hs q hq => by
    cases hs with | index e1 e2 =>
    rw [hx.h] at e2
    exact ⟨_, DP.ixa1 e1 e2 ht.h hp.h hz.h hq.l.1 (by have := hg.h hq.l.2; simpa using this), hq.r⟩⟩
class SubL (cs : List Value) (o n : Nat) (us : outParam (List Value)) : Prop where h : (cs.take (o + n)).drop o = us ∧ (n = 0 ∨ o + n ≤ cs.length)
instance {cs : List Value} {o : Nat} : SubL cs o 0 [] := ⟨by simp, .inl rfl⟩
instance {cs us : List Value} {o n : Nat} {v : Value} [h1 : GL cs o v] [h2 : SubL cs (o + 1) n us] : SubL cs o (n + 1) (v :: us) := ⟨by
  have ho := getS_lt h1.h
  have h3 := h1.h
  obtain ⟨h4, h5⟩ := h2.h
  have hle : o + (n + 1) ≤ cs.length := by rcases h5 with rfl | h5 <;> omega
  refine ⟨?_, .inr hle⟩
  rw [← h4, show o + 1 + n = o + (n + 1) by omega]
  have hl : o < (cs.take (o + (n + 1))).length := by rw [List.length_take]; omega
  rw [List.drop_eq_getElem_cons hl]
  congr 1
  rw [List.getElem_take]
  rw [List.getElem?_eq_getElem ho] at h3
  exact Option.some.inj h3⟩
instance (priority := 900) {t e : TypeId} {cs us : List Value} {k : IntKind} {x : Int} {i len n o : Nat} [ht : Und P t (.array len e)] [hp : Ag P e] [hz : Sz P e n] [hm : MulN i (n + 1) o] [hg : SubL cs o (n + 1) us] [hx : Nn x i] : Pu P (.index t (.agg cs.toArray) (.int k x)) (fun q => Vc (i < len) (q (.agg us.toArray))) :=
  ⟨fun E d op ty pos af g hs q hq => by
    cases hs with | index e1 e2 =>
    rw [hx.h] at e2
    have h1 := DP.ixaA (d := d) (ty := ty) (pos := pos) (af := af) (g := g) e1 e2 ht.h hp.h hz.h hq.l
    rw [hm.h] at h1
    refine ⟨_, DP.to h1 ?_, hq.r⟩
    rw [← hg.h.1]
    simp [List.drop_take]⟩
instance (priority := 1100) {t e : TypeId} {b o q : Nat} {k : IntKind} {x : Int} {i len : Nat} [ht : Und P t (.array len e)] [hz : Sz P e 0] [ha : Ad o i q] [hx : Nn x i] : Pu P (.indexAddr t (.pointer (some ⟨b, o, none⟩)) (.int k x)) (fun z => Vc (i < len) (z (.pointer (some ⟨b, q, none⟩)))) :=
  ⟨fun E d op ty pos af g hs z hq => by
    cases hs with | indexAddr e1 e2 =>
    rw [hx.h] at e2
    have h1 := DP.iaa (d := d) (ty := ty) (pos := pos) (af := af) (g := g) e1 e2 ht.h hz.h hq.l
    rw [Nat.zero_add, Nat.mul_one, ha.h] at h1
    exact ⟨_, h1, hq.r⟩⟩
instance {t e : TypeId} {b o q n m : Nat} {k : IntKind} {x : Int} {i len : Nat} [ht : Und P t (.array len e)] [hz : Sz P e n] [hm : MulA i (n + 1) m] [ha : Ad o m q] [hx : Nn x i] : Pu P (.indexAddr t (.pointer (some ⟨b, o, none⟩)) (.int k x)) (fun z => Vc (i < len) (z (.pointer (some ⟨b, q, none⟩)))) :=
  ⟨fun E d op ty pos af g hs z hq => by
    cases hs with | indexAddr e1 e2 =>
    rw [hx.h] at e2
    have h1 := DP.iaa (d := d) (ty := ty) (pos := pos) (af := af) (g := g) e1 e2 ht.h hz.h hq.l
    rw [hm.h, ha.h] at h1
    exact ⟨_, h1, hq.r⟩⟩
instance (priority := 1100) {t ft : TypeId} {b o k fo n q : Nat} {fs : List Field} {nm tg pk : String} {em : Bool} {bo : Nat} [ht : Und P t (.struct fs.toArray)] [hf : GL fs k ⟨nm, ft, fo, em, tg, pk, bo⟩] [hz : Sz P ft n] [ha : Ad o fo q] : Pu P (.fieldAddr t (.pointer (some ⟨b, o, none⟩)) k) (fun z => z (.pointer (some ⟨b, q, none⟩))) :=
  ⟨fun E d op ty pos af g hr z hk => by cases hr with | fieldAddr e1 => have h1 := DP.fa (d := d) (ty := ty) (pos := pos) (af := af) (g := g) fo e1 ht.h (by have := hf.h; simpa using this) rfl hz.h; rw [ha.h] at h1; exact ⟨_, h1, hk⟩⟩
instance {t ft : TypeId} {k fo n : Nat} {cs us : List Value} {fs : List Field} {nm tg pk : String} {em : Bool} {bo : Nat} [ht : Und P t (.struct fs.toArray)] [hf : GL fs k ⟨nm, ft, fo, em, tg, pk, bo⟩] [hp : Ag P ft] [hz : Sz P ft n] [hg : SubL cs fo (n + 1) us] : Pu P (.field t (.agg cs.toArray) k) (fun z => z (.agg us.toArray)) :=
  ⟨fun E d op ty pos af g hr z hk => by
    cases hr with | field e1 =>
    have h1 := DP.fdA (d := d) (ty := ty) (pos := pos) (af := af) (g := g) fo e1 ht.h (by have := hf.h; simpa using this) rfl hp.h hz.h
    refine ⟨_, DP.to h1 ?_, hk⟩
    rw [← hg.h.1]
    simp [List.drop_take]⟩
theorem DP.bandn {E : Env} {d : Option Tmp} {ty : TypeId} {pos : String} {af : Array Edge} {g : Option (Nat × Bool)} {k : IntKind} {x y : Operand} {a b : Nat} {t t' : TypeId} {l : Nat} (hx : E.eval x = .int k a) (hy : E.eval y = .int k b) (hl : k.lim = l) (ha : a < l) (hb : b < l) : DP P E ⟨d, .binOp .andNot t x y t', ty, pos, af, g⟩ (.int k ((a ^^^ (a &&& b) : Nat) : Int)) := by
  unfold DP
  refine ⟨fun _ => by simp, fun w => ?_⟩
  subst hl
  have hA : a < 2 ^ k.bits := Nat.lt_of_lt_of_le ha (lim_le k)
  have hB : b < 2 ^ k.bits := Nat.lt_of_lt_of_le hb (lim_le k)
  have e0 : (BitVec.ofNat k.bits a &&& ~~~ BitVec.ofNat k.bits b) = (BitVec.ofNat k.bits a ^^^ (BitVec.ofNat k.bits a &&& BitVec.ofNat k.bits b)) := by
    apply BitVec.eq_of_getLsbD_eq
    intro i hi
    simp only [BitVec.getLsbD_and, BitVec.getLsbD_not, BitVec.getLsbD_xor, hi, decide_true, Bool.true_and]
    cases (BitVec.ofNat k.bits a).getLsbD i <;> cases (BitVec.ofNat k.bits b).getLsbD i <;> rfl
  have e : k.wrap (((BitVec.ofInt k.bits (a : Int) &&& ~~~ BitVec.ofInt k.bits (b : Int)).toNat : Nat) : Int) = ((a ^^^ (a &&& b) : Nat) : Int) := by
    rw [ofInt_nat, ofInt_nat, e0, BitVec.toNat_xor, BitVec.toNat_and, BitVec.toNat_ofNat, BitVec.toNat_ofNat, Nat.mod_eq_of_lt hA, Nat.mod_eq_of_lt hB]
    exact wrap_nat (bits_lim k (fun a b => a ^^^ (a &&& b)) ha hb fun n h h' => Nat.xor_lt_two_pow h (Nat.and_lt_two_pow _ h'))
  simp only [execOp, hx, hy, eqGuard_andNot, binOp_andNot, Op.intBits, e]; simp
/-- an element of a slice whose place is known -/
instance (priority := 800) {t e : TypeId} {b o q len cap : Nat} {k : IntKind} {x : Int} {i : Nat} [ht : Und P t (.slice e)] [hz : Sz P e 0] [ha : Ad o i q] [hx : Nn x i] : Pu P (.indexAddr t (.slice (some ⟨b, o, none⟩) len cap) (.int k x)) (fun z => Vc (i < len) (z (.pointer (some ⟨b, q, none⟩)))) :=
  ⟨fun E d op ty pos af g hs z hq => by
    cases hs with | indexAddr e1 e2 =>
    rw [hx.h] at e2
    have h1 := DP.ias (d := d) (ty := ty) (pos := pos) (af := af) (g := g) e1 e2 ht.h hz.h hq.l
    rw [Nat.zero_add, Nat.mul_one, ha.h] at h1
    exact ⟨_, h1, hq.r⟩⟩
instance (priority := 700) {t e : TypeId} {b o q len cap n m : Nat} {k : IntKind} {x : Int} {i : Nat} [ht : Und P t (.slice e)] [hz : Sz P e n] [hm : MulA i (n + 1) m] [ha : Ad o m q] [hx : Nn x i] : Pu P (.indexAddr t (.slice (some ⟨b, o, none⟩) len cap) (.int k x)) (fun z => Vc (i < len) (z (.pointer (some ⟨b, q, none⟩)))) :=
  ⟨fun E d op ty pos af g hs z hq => by
    cases hs with | indexAddr e1 e2 =>
    rw [hx.h] at e2
    have h1 := DP.ias (d := d) (ty := ty) (pos := pos) (af := af) (g := g) e1 e2 ht.h hz.h hq.l
    rw [hm.h, ha.h] at h1
    exact ⟨_, h1, hq.r⟩⟩
/-- build of an array -/
instance {t e : TypeId} {vs : List (Nat × Value)} {len n : Nat} {z : Value} {zs us : List Value} [ht : Und P t (.array len e)] [hs : Sz P e n] [hz : Zr P t z] [hc : Cel z zs] [hf : FilA (n + 1) zs vs us] : Pu P (.build t vs) (fun k => k (.agg us.toArray)) :=
  ⟨fun E d op ty pos af g hr k hk => by cases hr with | build e => exact ⟨_, DP.baL e ht.h hs.h hz.h (by rw [hc.h]; exact hf.h), hk⟩⟩
/-- andNot -/
instance {k : IntKind} {x y : Int} {a b : Nat} {t : TypeId} {l : Nat} [hl : Lim k l] [h1 : Nn x a] [h2 : Nn y b] : Pu P (.bin .andNot t (.int k x) (.int k y)) (fun q => Vc (a < l ∧ b < l) (q (.int k ((a ^^^ (a &&& b) : Nat) : Int)))) :=
  ⟨fun E d op ty pos af g hr q hk => by
    cases hr with | bin e1 e2 =>
    rw [h1.h] at e1; rw [h2.h] at e2
    exact ⟨_, DP.bandn e1 e2 hl.h hk.l.1 hk.l.2, hk.r⟩⟩
end
end Pw


namespace Pw
open Go
/-! ## Regions whose order is open: a plan -/
section
variable {P : Program} {r : Rd} {ops : Array Oper} {Q : Exit → Act → World → Prop}
/-- Behind an operation that is not of ns the world is as it was. -/
def wpAnyN (P : Program) (r : Rd) (ops : Array Oper) (Q : Exit → Act → World → Prop) (ns : List Nat) : Nat → Array Bool → Act → World → Prop
  | 0, listed, a, w => Region.ready .any ops listed = [] ∧ Q .normal a w
  | fuel + 1, listed, a, w =>
    (Region.ready .any ops listed = [] → Q .normal a w) ∧
    ∀ i ∈ Region.ready .any ops listed, wpOpIn (Wf r) 0 P ops Q i (fun a' w' => (ns.contains i = false → w' = w) ∧ wpAnyN P r ops Q ns fuel (listed.setIfInBounds i true) a' w') a w
theorem wpAnyIn_of_N {ns : List Nat} : ∀ (fuel : Nat) (listed : Array Bool) (a : Act) (w : World), wpAnyN P r ops Q ns fuel listed a w → wpAnyIn (Wf r) 0 P .any ops Q fuel listed a w
  | 0, _, _, _, h => h
  | fuel + 1, _, _, _, h => ⟨h.1, fun i hi => wpOpIn_mono (fun a' w' h' => wpAnyIn_of_N fuel _ a' w' h'.2) (h.2 i hi)⟩
theorem wpAnyN_first {ns : List Nat} {S0 : World → Prop} {i : Nat} {oi : Oper} {v : Value} (hi : ops[i]? = some oi) (hsel : ∀ (j : Nat) (o : Oper) cs b, ops[j]? = some o → o.op ≠ .select cs b)
    (hdef : ∀ (j : Nat) (o : Oper) d, ops[j]? = some o → o.op ≠ .defer d)
    (hQ : ∀ c a w, Q (.panic c) (a.put oi.dst v) w → Q (.panic c) a w) (hin : ns.contains i = false) :
    ∀ (fuel : Nat) (listed : Array Bool) (a : Act) (w : World), Cl ops listed →
      ((∀ w, S0 w) ∨ ∀ j ∈ ns, listed.getD j true = false → Anc ops i j) →
      (∀ j oj, ops[j]? = some oj → j ≠ i → listed.getD j true = false → (∀ e ∈ oj.after, Region.binds .any e = true → e.on ≠ i) → oi.apart ops oj = true) →
      i ∈ Region.ready .any ops listed → YieldsS P ops S0 oi v a → S0 w →
      wpAnyN P r ops Q ns fuel (listed.setIfInBounds i true) (a.put oi.dst v) w → wpAnyN P r ops Q ns (fuel + 1) listed a w := by
  intro fuel
  have one : ∀ (fuel : Nat) (listed : Array Bool) (a : Act) (w : World), YieldsS P ops S0 oi v a → S0 w → wpAnyN P r ops Q ns fuel (listed.setIfInBounds i true) (a.put oi.dst v) w →
      wpOpIn (Wf r) 0 P ops Q i (fun a' w' => (ns.contains i = false → w' = w) ∧ wpAnyN P r ops Q ns fuel (listed.setIfInBounds i true) a' w') a w := fun fuel listed a w hy hS H => hy.wpOp hi hS ⟨fun _ => rfl, H⟩
  induction fuel with
  | zero =>
    intro listed a w _ _ _ hr hy hS H
    refine ⟨fun h => (by rw [h] at hr; cases hr), fun j hj => ?_⟩
    by_cases hji : j = i
    · subst hji; exact one _ _ _ _ hy hS H
    · have := ready_mono hj hji
      rw [H.1] at this
      cases this
  | succ fuel ih =>
    intro listed a w hcl hS0 hfree hr hy hS H
    refine ⟨fun h => (by rw [h] at hr; cases hr), fun j hj => ?_⟩
    by_cases hji : j = i
    · subst hji; exact one _ _ _ _ hy hS H
    · have h1 := H.2 j (ready_mono hj hji)
      obtain ⟨hjun, oj, hoj, hall⟩ := mem_ready.1 hj
      have hiun : listed.getD i true = false := (mem_ready.1 hr).1
      have hnot : ∀ e ∈ oj.after, Region.binds .any e = true → e.on ≠ i := fun e he hb heq => by
        have h1 := hall e he hb
        rw [heq] at h1
        rw [getD_false_true h1] at hiun; cases hiun
      have hunl : ∀ k, (listed.setIfInBounds j true).getD k true = false → listed.getD k true = false := fun k hun => by
        by_cases hjk : j = k
        · subst hjk; exact hjun
        · rw [getD_set_ne true hjk] at hun; exact hun
      have hfree' : ∀ k ok, ops[k]? = some ok → k ≠ i → (listed.setIfInBounds j true).getD k true = false →
          (∀ e ∈ ok.after, Region.binds .any e = true → e.on ≠ i) → oi.apart ops ok = true := fun k ok hk hki hun hno => hfree k ok hk hki (hunl k hun) hno
      have hri : i ∈ Region.ready .any ops (listed.setIfInBounds j true) := ready_mono hr (Ne.symm hji)
      have h2 := wpOpS_put hoj (hfree j oj hoj hji hjun hnot) (fun cs b => hsel i oi cs b hi) (fun cs b => hsel j oj cs b hoj) (fun d => hdef j oj d hoj) hQ hy h1
      refine wpOpIn_mono (fun a' w' h3 => ?_) h2
      refine ⟨h3.2.1, ih (listed.setIfInBounds j true) a' w' (hcl.set hj) ?_ hfree' hri h3.1 ?_ ?_⟩
      · rcases hS0 with hT | hanc
        · exact .inl hT
        · exact .inr fun k hk hun => hanc k hk (hunl k hun)
      · rcases hS0 with hT | hanc
        · exact hT w'
        · have hjn : ns.contains j = false := by
            cases hc : ns.contains j with
            | false => rfl
            | true =>
              have ha := hanc j (by simpa using hc) hjun
              have : listed.getD i false = true := by
                cases ha with
                | one ho he hb hi' => rw [hoj] at ho; cases ho; rw [← hi']; exact hall _ he hb
                | more ho he hb hi' => rw [hoj] at ho; cases ho; exact hcl.anc hi' (getD_false_true (hall _ he hb))
              rw [getD_false_true this] at hiun; cases hiun
          rw [h3.2.1 hjn]; exact hS
      · rw [Array.setIfInBounds_comm _ _ hji]
        exact h3.2.2

/-- A plan: in which order they are looked at. p: needs no memory; d: reads; n: the only one that may come up; b2, b3: several may. -/
inductive Sch where
  | fin
  | p (i : Nat) (s : Sch)
  | d (i : Nat) (s : Sch)
  | n (i : Nat) (s : Sch)
  | b2 (i : Nat) (s : Sch) (j : Nat) (t : Sch)
  | b3 (i : Nat) (s : Sch) (j : Nat) (t : Sch) (k : Nat) (u : Sch)
  | b4 (i : Nat) (s : Sch) (j : Nat) (t : Sch) (k : Nat) (u : Sch) (m : Nat) (v : Sch)
def Sch.dep : Sch → Nat
  | .fin => 0
  | .p _ s | .d _ s | .n _ s | .b2 _ s _ _ | .b3 _ s _ _ _ _ | .b4 _ s _ _ _ _ _ _ => s.dep + 1
def okSch (ops : Array Oper) (ns : List Nat) : Sch → Array Bool → Bool
  | .fin, listed => (Region.ready .any ops listed).isEmpty
  | .p i s, listed => okTake ops listed i && !ns.contains i && okSch ops ns s (listed.setIfInBounds i true)
  | .d i s, listed => okTake ops listed i && !ns.contains i && (ns.all fun j => listed.getD j true || ((Region.before ops).getD j 0).testBit i) && okSch ops ns s (listed.setIfInBounds i true)
  | .n i s, listed => (Region.ready .any ops listed == [i]) && okSch ops ns s (listed.setIfInBounds i true)
  | .b2 i s j t, listed => (Region.ready .any ops listed == [i, j]) && Nat.beq s.dep t.dep && okSch ops ns s (listed.setIfInBounds i true) && okSch ops ns t (listed.setIfInBounds j true)
  | .b3 i s j t k u, listed => (Region.ready .any ops listed == [i, j, k]) && Nat.beq s.dep t.dep && Nat.beq s.dep u.dep && okSch ops ns s (listed.setIfInBounds i true) && okSch ops ns t (listed.setIfInBounds j true) && okSch ops ns u (listed.setIfInBounds k true)
  | .b4 i s j t k u m v, listed => (Region.ready .any ops listed == [i, j, k, m]) && Nat.beq s.dep t.dep && Nat.beq s.dep u.dep && Nat.beq s.dep v.dep && okSch ops ns s (listed.setIfInBounds i true) && okSch ops ns t (listed.setIfInBounds j true) && okSch ops ns u (listed.setIfInBounds k true) && okSch ops ns v (listed.setIfInBounds m true)
end

/-- The judgement along a plan. -/
def TS (P : Program) (r : Rd) (c : Ctx) (ns : List Nat) (ops : Array Oper) (Q : Exit → Env → Rd → World → Prop) (s : Sch) (L : List Assn) (E : Env) : Prop :=
  ∀ listed : Array Bool, Calm Q → Cl ops listed → okSch ops ns s listed = true → ∀ w, SL c L w → wpAnyN P r ops (lift Q) ns s.dep listed (E.acd r) w

section
variable {P : Program} {r : Rd} {c : Ctx} {ns : List Nat} {ops : Array Oper} {Q : Exit → Env → Rd → World → Prop} {L : List Assn} {E : Env}
theorem T.plan (id : Nat) (ns : List Nat) (s : Sch) {l : List Oper} (h : TS P r c ns l.toArray Q s L E) (hok : okSch l.toArray ns s (Array.replicate l.length false) = true) (hd : s.dep = l.length) (hm : P.follows .mixedOrders = true) (hq : Calm Q) : T P r c L (.region id l.toArray true) Q E := by
  unfold T
  intro w hw
  refine wpIn_region_any hm (wpAnyIn_of_N (ns := ns) _ _ _ _ ?_)
  have := h (Array.replicate l.length false) hq (by have := Cl.init l.toArray; simpa using this) hok { w with drawn := w.drawn + 1 } hw
  rw [hd] at this
  simpa using this
theorem TS.fin (k : TQ r c L Q .normal E) : TS P r c ns ops Q .fin L E := fun listed _ _ hok w hw => by
  unfold TQ at k
  refine ⟨?_, E, r, rfl, k w hw⟩
  simpa [okSch] using hok
theorem TS.take {tag : Nat → Sch → Sch} {i : Nat} {s : Sch} {o : Oper} {v : Value} {S0 : World → Prop} (ho : ops[i]? = some o) (hd : (tag i s).dep = s.dep + 1) (hk : ∀ listed, okSch ops ns (tag i s) listed = true → okTake ops listed i = true ∧ ns.contains i = false ∧ ((∀ w, S0 w) ∨ ∀ j ∈ ns, listed.getD j true = false → Anc ops i j) ∧ okSch ops ns s (listed.setIfInBounds i true) = true)
    (hS : ∀ w, SL c L w → S0 w) (hy : YieldsS P ops S0 o v (E.acd r)) (k : TS P r c ns ops Q s L (E.puto o.dst v)) : TS P r c ns ops Q (tag i s) L E := fun listed hq hcl hok w hw => by
  obtain ⟨h0, hn, hA, hok'⟩ := hk listed hok
  simp only [okTake, Bool.and_eq_true] at h0
  obtain ⟨⟨h1, h2⟩, h3⟩ := h0
  have hr : i ∈ Region.ready .any ops listed := by simpa using h3
  rw [hd]
  refine wpAnyN_first (S0 := S0) (v := v) ho (noDefer_s h1) (noDefer_d h1) (fun ch a w => lift_panic hq ch _ _ _ w) hn s.dep listed (E.acd r) w hcl hA (Region.free_spec ho h2) hr hy (hS w hw) ?_
  rw [E.acd_put]
  exact k _ hq (hcl.set hr) hok' w hw
theorem ok_p {i : Nat} {s : Sch} (listed : Array Bool) (h : okSch ops ns (.p i s) listed = true) : okTake ops listed i = true ∧ ns.contains i = false ∧ ((∀ w : World, True) ∨ ∀ j ∈ ns, listed.getD j true = false → Anc ops i j) ∧ okSch ops ns s (listed.setIfInBounds i true) = true := by
  simp only [okSch, Bool.and_eq_true, Bool.not_eq_true'] at h
  exact ⟨h.1.1, h.1.2, .inl fun _ => trivial, h.2⟩
theorem ok_d {S0 : World → Prop} {i : Nat} {s : Sch} (listed : Array Bool) (h : okSch ops ns (.d i s) listed = true) : okTake ops listed i = true ∧ ns.contains i = false ∧ ((∀ w : World, S0 w) ∨ ∀ j ∈ ns, listed.getD j true = false → Anc ops i j) ∧ okSch ops ns s (listed.setIfInBounds i true) = true := by
  simp only [okSch, Bool.and_eq_true, Bool.not_eq_true', List.all_eq_true, Bool.or_eq_true] at h
  refine ⟨h.1.1.1, h.1.1.2, .inr fun j hj hu => ?_, h.2⟩
  rcases h.1.2 j hj with h5 | h5
  · rw [h5] at hu; cases hu
  · exact before_anc ops j i h5
/-- One that comes up now, and then the plan s. -/
def TN (P : Program) (r : Rd) (c : Ctx) (ns : List Nat) (ops : Array Oper) (Q : Exit → Env → Rd → World → Prop) (i : Nat) (s : Sch) (L : List Assn) (E : Env) : Prop :=
  ∀ listed : Array Bool, Calm Q → Cl ops (listed.setIfInBounds i true) → okSch ops ns s (listed.setIfInBounds i true) = true → ∀ w, SL c L w →
    wpOpIn (Wf r) 0 P ops (lift Q) i (fun a' w' => (ns.contains i = false → w' = w) ∧ wpAnyN P r ops (lift Q) ns s.dep (listed.setIfInBounds i true) a' w') (E.acd r) w
theorem TS.one {i : Nat} {s : Sch} (h : TN P r c ns ops Q i s L E) : TS P r c ns ops Q (.n i s) L E := fun listed hq hcl hok w hw => by
  simp only [okSch, Bool.and_eq_true] at hok
  have hr : Region.ready .any ops listed = [i] := by simpa using hok.1
  have hi : i ∈ Region.ready .any ops listed := by rw [hr]; simp
  refine ⟨fun h => (by rw [h] at hr; cases hr), fun j hj => ?_⟩
  rw [hr] at hj
  obtain rfl : j = i := by simpa using hj
  exact h listed hq (hcl.set hi) hok.2 w hw
theorem TS.two {i j : Nat} {s t : Sch} (h : TN P r c ns ops Q i s L E ∧ TN P r c ns ops Q j t L E) : TS P r c ns ops Q (.b2 i s j t) L E := fun listed hq hcl hok w hw => by
  simp only [okSch, Bool.and_eq_true] at hok
  obtain ⟨⟨⟨h0, hd⟩, h1⟩, h2⟩ := hok
  have hr : Region.ready .any ops listed = [i, j] := by simpa using h0
  have hd' := Nat.eq_of_beq_eq_true hd
  refine ⟨fun h => (by rw [h] at hr; cases hr), fun q hq' => ?_⟩
  have hq0 := hq'
  rw [hr] at hq'
  rcases List.mem_cons.1 hq' with rfl | hq'
  · exact h.1 listed hq (hcl.set hq0) h1 w hw
  · obtain rfl : q = j := by simpa using hq'
    have := h.2 listed hq (hcl.set hq0) h2 w hw
    rw [← hd'] at this; exact this
theorem TS.three {i j m : Nat} {s t u : Sch} (h : TN P r c ns ops Q i s L E ∧ TN P r c ns ops Q j t L E ∧ TN P r c ns ops Q m u L E) : TS P r c ns ops Q (.b3 i s j t m u) L E := fun listed hq hcl hok w hw => by
  simp only [okSch, Bool.and_eq_true] at hok
  obtain ⟨⟨⟨⟨⟨h0, hd⟩, hd2⟩, h1⟩, h2⟩, h3⟩ := hok
  have hr : Region.ready .any ops listed = [i, j, m] := by simpa using h0
  have hd' := Nat.eq_of_beq_eq_true hd
  have hd2' := Nat.eq_of_beq_eq_true hd2
  refine ⟨fun h => (by rw [h] at hr; cases hr), fun q hq' => ?_⟩
  have hq0 := hq'
  rw [hr] at hq'
  rcases List.mem_cons.1 hq' with rfl | hq'
  · exact h.1 listed hq (hcl.set hq0) h1 w hw
  · rcases List.mem_cons.1 hq' with rfl | hq'
    · have := h.2.1 listed hq (hcl.set hq0) h2 w hw
      rw [← hd'] at this; exact this
    · obtain rfl : q = m := by simpa using hq'
      have := h.2.2 listed hq (hcl.set hq0) h3 w hw
      rw [← hd2'] at this; exact this
theorem TS.four {i j m y : Nat} {s t u v : Sch} (h : TN P r c ns ops Q i s L E ∧ TN P r c ns ops Q j t L E ∧ TN P r c ns ops Q m u L E ∧ TN P r c ns ops Q y v L E) : TS P r c ns ops Q (.b4 i s j t m u y v) L E := fun listed hq hcl hok w hw => by
  simp only [okSch, Bool.and_eq_true] at hok
  obtain ⟨⟨⟨⟨⟨⟨⟨h0, hd⟩, hd2⟩, hd3⟩, h1⟩, h2⟩, h3⟩, h4⟩ := hok
  have hr : Region.ready .any ops listed = [i, j, m, y] := by simpa using h0
  have hd' := Nat.eq_of_beq_eq_true hd
  have hd2' := Nat.eq_of_beq_eq_true hd2
  have hd3' := Nat.eq_of_beq_eq_true hd3
  refine ⟨fun h => (by rw [h] at hr; cases hr), fun q hq' => ?_⟩
  have hq0 := hq'
  rw [hr] at hq'
  rcases List.mem_cons.1 hq' with rfl | hq'
  · exact h.1 listed hq (hcl.set hq0) h1 w hw
  · rcases List.mem_cons.1 hq' with rfl | hq'
    · have := h.2.1 listed hq (hcl.set hq0) h2 w hw
      rw [← hd'] at this; exact this
    · rcases List.mem_cons.1 hq' with rfl | hq'
      · have := h.2.2.1 listed hq (hcl.set hq0) h3 w hw
        rw [← hd2'] at this; exact this
      · obtain rfl : q = y := by simpa using hq'
        have := h.2.2.2 listed hq (hcl.set hq0) h4 w hw
        rw [← hd3'] at this; exact this
theorem TN.n {i : Nat} {s : Sch} {o : Oper} {Φ : Value → List Assn → Prop} (ho : ops[i]? = some o) (hns : ns.contains i = true) (hw : Region.wanted o (yielded ops (E.acd r).tmps) = true) (hn : N P r c L E o Φ)
    (k : ∀ v L', Φ v L' → TS P r c ns ops Q s L' (E.puto o.dst v)) : TN P r c ns ops Q i s L E := fun listed hq hcl hok w hw' => by
  unfold wpOpIn
  simp only [ho]
  rw [if_pos hw]
  unfold N at hn
  refine hn w hw' _ _ fun v L' w' hΦ hw' => ⟨fun h => (by rw [hns] at h; cases h), ?_⟩
  rw [E.acd_put]
  exact k v L' hΦ _ hq hcl hok w' hw'
theorem TN.d {i : Nat} {s : Sch} {o : Oper} {v : Value} (ho : ops[i]? = some o) (hw : Region.wanted o (yielded ops (E.acd r).tmps) = true) (hd : D P c L E o v)
    (k : TS P r c ns ops Q s L (E.puto o.dst v)) : TN P r c ns ops Q i s L E := fun listed hq hcl hok w hw' => by
  unfold D at hd
  refine YieldsS.wpOp (S := SL c L) (v := v) ho (.inl ⟨hw, hd.1, fun w hw => by rw [Env.acd_eval]; exact hd.2 w hw⟩) hw' ⟨fun _ => rfl, ?_⟩
  rw [E.acd_put]
  exact k _ hq hcl hok w hw'
theorem TN.off {i : Nat} {s : Sch} {o : Oper} (ho : ops[i]? = some o) (hw : Region.wanted o (yielded ops (E.acd r).tmps) = false)
    (k : TS P r c ns ops Q s L (E.puto o.dst undef)) : TN P r c ns ops Q i s L E := fun listed hq hcl hok w hw' => by
  refine YieldsS.wpOp (S := SL c L) (v := undef) ho (.inr ⟨hw, rfl⟩) hw' ⟨fun _ => rfl, ?_⟩
  rw [E.acd_put]
  exact k _ hq hcl hok w hw'

section
variable {nt : Nat} {l : List (Nat × Value)} {gb : Nat → Value} {ds : Nat} {op : Op} {ty : TypeId} {pos : String} {af : Array Edge} {j i : Nat} {want : Bool} {s : Sch} {ro : RO} {W : (Value → Prop) → Prop} {V : (Value → List Assn → Prop) → Prop}
theorem TS.p0 (ho : ops[i]? = some ⟨some ds, op, ty, pos, af, none⟩) (hr : rsv ⟨nt, l, gb⟩ op = ro) [h : Pu P ro W] (k : W (fun v => TS P r c ns ops Q s L ⟨nt, (ds, v) :: l, gb⟩)) : TS P r c ns ops Q (.p i s) L ⟨nt, l, gb⟩ := by
  obtain ⟨v, hd, hk⟩ := h.go _ (some ds) op ty pos af none (rsv_ok hr) _ k
  unfold DP at hd
  exact TS.take (S0 := fun _ => True) ho rfl (fun listed h => ok_p listed h) (fun _ _ => trivial) (.inl ⟨wanted_none rfl, hd.1, fun w _ => by rw [Env.acd_eval]; exact hd.2 w⟩) hk
theorem TS.py (ho : ops[i]? = some ⟨some ds, op, ty, pos, af, some (j, want)⟩) (hy : Env.yl ⟨nt, l, gb⟩ ops j = some want) (hr : rsv ⟨nt, l, gb⟩ op = ro) [h : Pu P ro W] (k : W (fun v => TS P r c ns ops Q s L ⟨nt, (ds, v) :: l, gb⟩)) : TS P r c ns ops Q (.p i s) L ⟨nt, l, gb⟩ := by
  obtain ⟨v, hd, hk⟩ := h.go _ (some ds) op ty pos af (some (j, want)) (rsv_ok hr) _ k
  unfold DP at hd
  exact TS.take (S0 := fun _ => True) ho rfl (fun listed h => ok_p listed h) (fun _ _ => trivial) (.inl ⟨by show Region.wanted _ (Go.yielded ops (Env.act ⟨nt, l, gb⟩).tmps) = true; rw [Env.wanted rfl hy]; simp, hd.1, fun w _ => by rw [Env.acd_eval]; exact hd.2 w⟩) hk
theorem TS.pn {b : Bool} (ho : ops[i]? = some ⟨some ds, op, ty, pos, af, some (j, want)⟩) (hy : Env.yl ⟨nt, l, gb⟩ ops j = some b) (hb : (b == want) = false) (k : TS P r c ns ops Q s L ⟨nt, (ds, undef) :: l, gb⟩) : TS P r c ns ops Q (.p i s) L ⟨nt, l, gb⟩ :=
  TS.take (S0 := fun _ => True) ho rfl (fun listed h => ok_p listed h) (fun _ _ => trivial) (.inr ⟨by show Region.wanted _ (Go.yielded ops (Env.act ⟨nt, l, gb⟩).tmps) = false; rw [Env.wanted rfl hy]; exact hb, rfl⟩) k
theorem TS.pu (ho : ops[i]? = some ⟨some ds, op, ty, pos, af, some (j, want)⟩) (hy : Env.yl ⟨nt, l, gb⟩ ops j = none) (k : TS P r c ns ops Q s L ⟨nt, (ds, undef) :: l, gb⟩) : TS P r c ns ops Q (.p i s) L ⟨nt, l, gb⟩ :=
  TS.take (S0 := fun _ => True) ho rfl (fun listed h => ok_p listed h) (fun _ _ => trivial) (.inr ⟨Env.wantedN rfl hy, rfl⟩) k
theorem TS.d0 (ho : ops[i]? = some ⟨some ds, op, ty, pos, af, none⟩) (hr : rsv ⟨nt, l, gb⟩ op = ro) [h : Re P c L ro W] (k : W (fun v => TS P r c ns ops Q s L ⟨nt, (ds, v) :: l, gb⟩)) : TS P r c ns ops Q (.d i s) L ⟨nt, l, gb⟩ := by
  obtain ⟨v, hd, hk⟩ := h.go _ (some ds) op ty pos af none (rsv_ok hr) _ k
  unfold D at hd
  exact TS.take (S0 := SL c L) ho rfl (fun listed h => ok_d listed h) (fun _ h => h) (.inl ⟨wanted_none rfl, hd.1, fun w hw => by rw [Env.acd_eval]; exact hd.2 w hw⟩) hk
theorem TS.dy (ho : ops[i]? = some ⟨some ds, op, ty, pos, af, some (j, want)⟩) (hy : Env.yl ⟨nt, l, gb⟩ ops j = some want) (hr : rsv ⟨nt, l, gb⟩ op = ro) [h : Re P c L ro W] (k : W (fun v => TS P r c ns ops Q s L ⟨nt, (ds, v) :: l, gb⟩)) : TS P r c ns ops Q (.d i s) L ⟨nt, l, gb⟩ := by
  obtain ⟨v, hd, hk⟩ := h.go _ (some ds) op ty pos af (some (j, want)) (rsv_ok hr) _ k
  unfold D at hd
  exact TS.take (S0 := SL c L) ho rfl (fun listed h => ok_d listed h) (fun _ h => h) (.inl ⟨by show Region.wanted _ (Go.yielded ops (Env.act ⟨nt, l, gb⟩).tmps) = true; rw [Env.wanted rfl hy]; simp, hd.1, fun w hw => by rw [Env.acd_eval]; exact hd.2 w hw⟩) hk
theorem TS.dn {b : Bool} (ho : ops[i]? = some ⟨some ds, op, ty, pos, af, some (j, want)⟩) (hy : Env.yl ⟨nt, l, gb⟩ ops j = some b) (hb : (b == want) = false) (k : TS P r c ns ops Q s L ⟨nt, (ds, undef) :: l, gb⟩) : TS P r c ns ops Q (.d i s) L ⟨nt, l, gb⟩ :=
  TS.take (S0 := SL c L) ho rfl (fun listed h => ok_d listed h) (fun _ h => h) (.inr ⟨by show Region.wanted _ (Go.yielded ops (Env.act ⟨nt, l, gb⟩).tmps) = false; rw [Env.wanted rfl hy]; exact hb, rfl⟩) k
theorem TS.du (ho : ops[i]? = some ⟨some ds, op, ty, pos, af, some (j, want)⟩) (hy : Env.yl ⟨nt, l, gb⟩ ops j = none) (k : TS P r c ns ops Q s L ⟨nt, (ds, undef) :: l, gb⟩) : TS P r c ns ops Q (.d i s) L ⟨nt, l, gb⟩ :=
  TS.take (S0 := SL c L) ho rfl (fun listed h => ok_d listed h) (fun _ h => h) (.inr ⟨Env.wantedN rfl hy, rfl⟩) k
/-! the ones that come up alone -/
theorem TN.r0 (ho : ops[i]? = some ⟨some ds, op, ty, pos, af, none⟩) (hr : rsv ⟨nt, l, gb⟩ op = ro) [h : Re P c L ro W] (k : W (fun v => TS P r c ns ops Q s L ⟨nt, (ds, v) :: l, gb⟩)) : TN P r c ns ops Q i s L ⟨nt, l, gb⟩ := by
  obtain ⟨v, hd, hk⟩ := h.go _ (some ds) op ty pos af none (rsv_ok hr) _ k
  exact TN.d ho (wanted_none rfl) hd hk
theorem TN.ry (ho : ops[i]? = some ⟨some ds, op, ty, pos, af, some (j, want)⟩) (hy : Env.yl ⟨nt, l, gb⟩ ops j = some want) (hr : rsv ⟨nt, l, gb⟩ op = ro) [h : Re P c L ro W] (k : W (fun v => TS P r c ns ops Q s L ⟨nt, (ds, v) :: l, gb⟩)) : TN P r c ns ops Q i s L ⟨nt, l, gb⟩ := by
  obtain ⟨v, hd, hk⟩ := h.go _ (some ds) op ty pos af (some (j, want)) (rsv_ok hr) _ k
  exact TN.d ho (by show Region.wanted _ (Go.yielded ops (Env.act ⟨nt, l, gb⟩).tmps) = true; rw [Env.wanted rfl hy]; simp) hd hk
theorem TN.s0 (ho : ops[i]? = some ⟨some ds, op, ty, pos, af, none⟩) (hns : ns.contains i = true) (hr : rsv ⟨nt, l, gb⟩ op = ro) [h : St P c L ro V] (k : V (fun v L' => TS P r c ns ops Q s L' ⟨nt, (ds, v) :: l, gb⟩)) : TN P r c ns ops Q i s L ⟨nt, l, gb⟩ :=
  TN.n ho hns (wanted_none rfl) (h.go r _ _ _ _ _ _ _ (rsv_ok hr) _ k) fun _ _ hk => hk
theorem TN.sz (ho : ops[i]? = some ⟨none, op, ty, pos, af, none⟩) (hns : ns.contains i = true) (hr : rsv ⟨nt, l, gb⟩ op = ro) [h : St P c L ro V] (k : V (fun _ L' => TS P r c ns ops Q s L' ⟨nt, l, gb⟩)) : TN P r c ns ops Q i s L ⟨nt, l, gb⟩ :=
  TN.n ho hns (wanted_none rfl) (h.go r _ _ _ _ _ _ _ (rsv_ok hr) _ k) fun _ _ hk => hk
theorem TN.sy (ho : ops[i]? = some ⟨some ds, op, ty, pos, af, some (j, want)⟩) (hns : ns.contains i = true) (hy : Env.yl ⟨nt, l, gb⟩ ops j = some want) (hr : rsv ⟨nt, l, gb⟩ op = ro) [h : St P c L ro V] (k : V (fun v L' => TS P r c ns ops Q s L' ⟨nt, (ds, v) :: l, gb⟩)) : TN P r c ns ops Q i s L ⟨nt, l, gb⟩ :=
  TN.n ho hns (by show Region.wanted _ (Go.yielded ops (Env.act ⟨nt, l, gb⟩).tmps) = true; rw [Env.wanted rfl hy]; simp) (h.go r _ _ _ _ _ _ _ (rsv_ok hr) _ k) fun _ _ hk => hk
theorem TN.no {b : Bool} (ho : ops[i]? = some ⟨some ds, op, ty, pos, af, some (j, want)⟩) (hy : Env.yl ⟨nt, l, gb⟩ ops j = some b) (hb : (b == want) = false) (k : TS P r c ns ops Q s L ⟨nt, (ds, undef) :: l, gb⟩) : TN P r c ns ops Q i s L ⟨nt, l, gb⟩ :=
  TN.off ho (by show Region.wanted _ (Go.yielded ops (Env.act ⟨nt, l, gb⟩).tmps) = false; rw [Env.wanted rfl hy]; exact hb) k
theorem TN.nu (ho : ops[i]? = some ⟨some ds, op, ty, pos, af, some (j, want)⟩) (hy : Env.yl ⟨nt, l, gb⟩ ops j = none) (k : TS P r c ns ops Q s L ⟨nt, (ds, undef) :: l, gb⟩) : TN P r c ns ops Q i s L ⟨nt, l, gb⟩ :=
  TN.off ho (Env.wantedN rfl hy) k
/-! a guard that is not known -/
def gslot (ops : Array Oper) (i : Nat) : Option Nat := match ops[i]? with | some o => (match o.guard with | some (j, _) => nthDst ops.toList j | none => none) | none => none
def Sch.hd : Sch → Nat
  | .fin => 0
  | .p i _ | .d i _ | .n i _ | .b2 i _ _ _ | .b3 i _ _ _ _ _ | .b4 i _ _ _ _ _ _ _ => i
theorem TS.gS {t : Nat} {b : Bool} (ht : gslot ops s.hd = some t) (hv : Env.get ⟨nt, l, gb⟩ t = .bool b)
    (h : (b = true → TS P r c ns ops Q s L ⟨nt, (t, .bool true) :: l, gb⟩) ∧ (b = false → TS P r c ns ops Q s L ⟨nt, (t, .bool false) :: l, gb⟩)) : TS P r c ns ops Q s L ⟨nt, l, gb⟩ := by
  unfold TS
  intro listed hq hcl hok w hw
  cases b with
  | true => rw [Env.acd_congr (Env.put_same t _ hv) r]; have := h.1 rfl; unfold TS at this; exact this listed hq hcl hok w hw
  | false => rw [Env.acd_congr (Env.put_same t _ hv) r]; have := h.2 rfl; unfold TS at this; exact this listed hq hcl hok w hw
theorem TS.gD {t : Nat} {p : Prop} {inst : Decidable p} (ht : gslot ops s.hd = some t) (hv : Env.get ⟨nt, l, gb⟩ t = .bool (@decide p inst))
    (h : (p → TS P r c ns ops Q s L ⟨nt, (t, .bool true) :: l, gb⟩) ∧ (¬ p → TS P r c ns ops Q s L ⟨nt, (t, .bool false) :: l, gb⟩)) : TS P r c ns ops Q s L ⟨nt, l, gb⟩ :=
  TS.gS ht hv ⟨fun h' => h.1 (of_decide_eq_true h'), fun h' => h.2 (of_decide_eq_false h')⟩
/-- The guard is known. -/
theorem TO.kT {o : Oper} {rest : List Oper} {j : Nat} {want : Bool} (_ : o.guard = some (j, want)) (_ : Env.yl ⟨nt, l, gb⟩ ops j = some true) (k : TO P r c L ops Q (o :: rest) ⟨nt, l, gb⟩) : TO P r c L ops Q (o :: rest) ⟨nt, l, gb⟩ := k
theorem TO.kF {o : Oper} {rest : List Oper} {j : Nat} {want : Bool} (_ : o.guard = some (j, want)) (_ : Env.yl ⟨nt, l, gb⟩ ops j = some false) (k : TO P r c L ops Q (o :: rest) ⟨nt, l, gb⟩) : TO P r c L ops Q (o :: rest) ⟨nt, l, gb⟩ := k
theorem TS.kT {t : Nat} (_ : gslot ops s.hd = some t) (_ : Env.get ⟨nt, l, gb⟩ t = .bool true) (k : TS P r c ns ops Q s L ⟨nt, l, gb⟩) : TS P r c ns ops Q s L ⟨nt, l, gb⟩ := k
theorem TS.kF {t : Nat} (_ : gslot ops s.hd = some t) (_ : Env.get ⟨nt, l, gb⟩ t = .bool false) (k : TS P r c ns ops Q s L ⟨nt, l, gb⟩) : TS P r c ns ops Q s L ⟨nt, l, gb⟩ := k
end
end
/-! ### calm ends -/
class CalmC (Q : Exit → Env → Rd → World → Prop) : Prop where h : Calm Q
instance {P : Program} {fn : Func} {c : Ctx} {R : List Assn} {B : Value → List Assn → Prop} {C : List PanicEntry → List Assn → Prop} : CalmC (retQ P fn c R B C) := ⟨Calm.rt⟩
instance {P : Program} {r : Rd} {y : Code} {Q : Exit → Env → Rd → World → Prop} [h : CalmC Q] : CalmC (thenQ P r y Q) := ⟨Calm.t h.h⟩
instance {id : Nat} {Q : Exit → Env → Rd → World → Prop} [h : CalmC Q] : CalmC (blockQ id Q) := ⟨Calm.b h.h⟩
instance {r : Rd} {c : Ctx} {S : Type} {n : Nat} {sl : S → List (Nat × Value)} {H : S → List Assn} {I : S → Prop} {Q : Exit → Env → Rd → World → Prop} [h : CalmC Q] : CalmC (cutQ r c n sl H I Q) := ⟨Calm.ct h.h⟩
instance {r : Rd} {c : Ctx} {S : Type} {n : Nat} {sl : S → List (Nat × Value)} {H : S → List Assn} {I : S → Prop} {μ : S → Nat} {s : S} {Q : Exit → Env → Rd → World → Prop} [h : CalmC Q] : CalmC (loopQ r c n sl H I μ s Q) := ⟨Calm.l h.h⟩
instance {r : Rd} {c : Ctx} {L : List Assn} {n : Nat} {l : List (Nat × Value)} {g : Nat → Value} {D : List Nat} {d : Nat} {b : Bool} : CalmC (mrgQ r c L n l g D d b) := ⟨fun _ _ _ _ _ h => h.elim⟩
class Mixed (P : Program) : Prop where h : P.follows .mixedOrders = true
theorem T.pl (id : Nat) (ns : List Nat) (s : Sch) {P : Program} {r : Rd} {c : Ctx} {L : List Assn} {Q : Exit → Env → Rd → World → Prop} {E : Env} {l : List Oper} [hm : Mixed P] [hq : CalmC Q] (h : TS P r c ns l.toArray Q s L E) (hok : okSch l.toArray ns s (Array.replicate l.length false) = true := by kernel_rfl) (hd : s.dep = l.length := by rfl) : T P r c L (.region id l.toArray true) Q E := T.plan id ns s h hok hd hm.h hq.h
attribute [irreducible] TS TN
end Pw

