/- Lemmas for the proofs of this seat: no statement of the seat is claimed here. -/
import Derived.Test.YtcidilijlgaohaaDoorPx1
set_option linter.all false
namespace Pw
open Go


/-! ## Facts on types, as classes -/
class Und (P : Program) (t : TypeId) (d : outParam TypeDesc) : Prop where h : P.underlying t = some d
class Sz (P : Program) (t : TypeId) (n : outParam Nat) : Prop where h : P.cellsOf t = n + 1
class Pl (P : Program) (t : TypeId) : Prop where h : plainT P t = true
class Ag (P : Program) (t : TypeId) : Prop where h : aggT P t = true
class Zr (P : Program) (t : TypeId) (z : outParam Value) : Prop where h : P.zeroOf t = some z
class By (P : Program) (t : TypeId) (n : outParam Nat) : Prop where h : P.bytesOf t = n
class Pc (P : Program) (t : TypeId) (l : outParam (List (Nat × Nat))) : Prop where h : placesOf P t = some l
class Lim (k : IntKind) (l : outParam Nat) : Prop where h : k.lim = l
class Uns (k : IntKind) : Prop where h : k.signed = false
class Sgn (k : IntKind) : Prop where h : k.signed = true
instance : Lim .i8 128 := ⟨rfl⟩
instance : Lim .i16 32768 := ⟨rfl⟩
instance : Lim .i32 2147483648 := ⟨rfl⟩
instance : Lim .i64 9223372036854775808 := ⟨rfl⟩
instance : Lim .u8 256 := ⟨rfl⟩
instance : Lim .u16 65536 := ⟨rfl⟩
instance : Lim .u32 4294967296 := ⟨rfl⟩
instance : Lim .u64 18446744073709551616 := ⟨rfl⟩
instance : Uns .u8 := ⟨rfl⟩
instance : Uns .u16 := ⟨rfl⟩
instance : Uns .u32 := ⟨rfl⟩
instance : Uns .u64 := ⟨rfl⟩
instance : Sgn .i8 := ⟨rfl⟩
instance : Sgn .i16 := ⟨rfl⟩
instance : Sgn .i32 := ⟨rfl⟩
instance : Sgn .i64 := ⟨rfl⟩
/-- The number as a Nat. -/
class Nn (x : Int) (a : outParam Nat) : Prop where h : x = (a : Int)
instance (a : Nat) : Nn (a : Int) a := ⟨rfl⟩
instance (priority := 900) (n : Nat) : Nn (no_index (@OfNat.ofNat Int n instOfNat)) (@OfNat.ofNat Nat n (instOfNatNat n)) := ⟨rfl⟩


/-- Places added. -/
class Ad (o i : Nat) (q : outParam Nat) : Prop where h : o + i = q
instance (priority := 1100) {i : Nat} : Ad 0 i i := ⟨Nat.zero_add i⟩
instance (priority := 1050) {i : Nat} : Ad i 0 i := ⟨rfl⟩
instance {o i : Nat} : Ad o i (o + i) := ⟨rfl⟩
/-! ## Lists -/
class GL {α : Type} (l : List α) (i : Nat) (a : outParam α) : Prop where h : l[i]? = some a
instance {α : Type} {a : α} {l : List α} : GL (a :: l) 0 a := ⟨rfl⟩
instance {α : Type} {a b : α} {l : List α} {i : Nat} [h : GL l i b] : GL (a :: l) (i + 1) b := ⟨by simpa using h.h⟩
class SLs (l : List Value) (i : Nat) (v : Value) (l' : outParam (List Value)) : Prop where h : l.set i v = l' ∧ i < l.length
instance {a v : Value} {l : List Value} : SLs (a :: l) 0 v (v :: l) := ⟨by simp⟩
instance {a v : Value} {l l' : List Value} {i : Nat} [h : SLs l i v l'] : SLs (a :: l) (i + 1) v (a :: l') := ⟨by have := h.h; constructor; simpa using this.1; simpa using this.2⟩
class Len {α : Type} (l : List α) (n : outParam Nat) : Prop where h : l.length = n
instance {α : Type} : Len ([] : List α) 0 := ⟨rfl⟩
instance {α : Type} {a : α} {l : List α} {n : Nat} [h : Len l n] : Len (a :: l) (n + 1) := ⟨by simp [h.h]⟩
class One (v : Value) : Prop where h : v.oneCell' = true
instance {b : Bool} : One (.bool b) := ⟨rfl⟩
instance {k : IntKind} {n : Int} : One (.int k n) := ⟨rfl⟩
instance {s : ByteArray} : One (.string s) := ⟨rfl⟩
instance {a : Option Addr} : One (.pointer a) := ⟨rfl⟩
instance {a : Option Addr} {n k : Nat} : One (.slice a n k) := ⟨rfl⟩
instance {m : Option Nat} : One (.map m) := ⟨rfl⟩
instance {f : Fn} {a b : Array Value} : One (.func f a b) := ⟨rfl⟩
instance : One .nilFunc := ⟨rfl⟩
instance : One .nilIface := ⟨rfl⟩
class Ones (l : List Value) : Prop where h : ∀ v ∈ l, v.oneCell' = true
instance : Ones [] := ⟨fun _ h => by cases h⟩
instance {a : Value} {l : List Value} [h1 : One a] [h2 : Ones l] : Ones (a :: l) := ⟨fun v h => by rcases List.mem_cons.1 h with rfl | h; exact h1.h; exact h2.h v h⟩

/-! ## What is held -/
/-- A family of what may be held, by a key: where it stands, and what else there is. -/
class Fam {κ α : Type} (F : κ → α → Assn) (L : List Assn) (k : κ) (a : outParam α) (R : outParam (List Assn)) : Prop where h : Del (F k a) L R
instance (priority := 1100) {κ α : Type} {F : κ → α → Assn} {L : List Assn} {k : κ} {a : α} : Fam F (F k a :: L) k a L := ⟨.head _ _⟩
instance {κ α : Type} {F : κ → α → Assn} {B : Assn} {L R : List Assn} {k : κ} {a : α} [h : Fam F L k a R] : Fam F (B :: L) k a (B :: R) := ⟨.tail h.h⟩
class RowAt (L : List Assn) (b : Nat) (e : outParam TypeId) (cs : outParam (List Value)) : Prop where h : LMem (row e b cs) L
instance (priority := 1100) {L : List Assn} {b : Nat} {e : TypeId} {cs : List Value} : RowAt (row e b cs :: L) b e cs := ⟨.head _ _⟩
instance {A : Assn} {L : List Assn} {b : Nat} {e : TypeId} {cs : List Value} [h : RowAt L b e cs] : RowAt (A :: L) b e cs := ⟨.tail h.h⟩
class PutRow (L : List Assn) (b o : Nat) (v : Value) (L' : outParam (List Assn)) : Prop where h : ∃ e cs, Put (row e b cs) L (row e b (cs.set o v)) L' ∧ o < cs.length
instance (priority := 1100) {L : List Assn} {b o : Nat} {v : Value} {e : TypeId} {cs cs' : List Value} [h : SLs cs o v cs'] : PutRow (row e b cs :: L) b o v (row e b cs' :: L) := ⟨e, cs, by rw [h.h.1]; exact .head _ _ _, h.h.2⟩
instance {A : Assn} {L L' : List Assn} {b o : Nat} {v : Value} [h : PutRow L b o v L'] : PutRow (A :: L) b o v (A :: L') := ⟨let ⟨e, cs, h1, h2⟩ := h.h; ⟨e, cs, .tail h1, h2⟩⟩
class SlAt (L : List Assn) (v : Value) (e : outParam TypeId) (sz n : outParam Nat) (xs : outParam (List Value)) (R : outParam (List Assn)) : Prop where h : Del (sl e sz v n xs) L R
instance (priority := 1100) {L : List Assn} {v : Value} {e : TypeId} {sz n : Nat} {xs : List Value} : SlAt (sl e sz v n xs :: L) v e sz n xs L := ⟨.head _ _⟩
instance {A : Assn} {L R : List Assn} {v : Value} {e : TypeId} {sz n : Nat} {xs : List Value} [h : SlAt L v e sz n xs R] : SlAt (A :: L) v e sz n xs (A :: R) := ⟨.tail h.h⟩
theorem Del.lmem {A : Assn} {L R : List Assn} (h : Del A L R) : LMem A L := by
  induction h with
  | head => exact .head _ _
  | tail _ ih => exact .tail ih
theorem Pick.of1 {A : Assn} {L R : List Assn} (h : Del A L R) : Pick [A] L R := .cons h (.nil _)

/-! ## The operations that need no memory -/
section
variable {P : Program}
instance {v : Value} : Pu P (.move v) (fun k => k v) := ⟨fun E d op ty pos af g hr k hk => by cases hr with | move h => exact ⟨_, DP.mv h, hk⟩⟩
instance {v : Value} : Pu P (.assign v) (fun k => k v) := ⟨fun E d op ty pos af g hr k hk => by cases hr with | assign h => exact ⟨_, DP.as h, hk⟩⟩
instance {a b : Value} : Pu P (.pick (.bool true) a b) (fun k => k a) := ⟨fun E d op ty pos af g hr k hk => by cases hr with | pick h1 h2 h3 => exact ⟨_, DP.pkT h1 h2, hk⟩⟩
instance {a b : Value} : Pu P (.pick (.bool false) a b) (fun k => k b) := ⟨fun E d op ty pos af g hr k hk => by cases hr with | pick h1 h2 h3 => exact ⟨_, DP.pkF h1 h3, hk⟩⟩
instance {vs : List Value} {i : Nat} {v : Value} [h : GL vs i v] : Pu P (.extract (.tuple vs.toArray) i) (fun k => k v) := ⟨fun E d op ty pos af g hr k hk => by cases hr with | extract h1 => exact ⟨_, DP.ex h1 (by have := h.h; simpa using this), hk⟩⟩
instance {a : Addr} : Pu P (.nilCheck (.pointer (some a))) (fun k => k (.pointer (some a))) := ⟨fun E d op ty pos af g hr k hk => by cases hr with | nilCheck h => exact ⟨_, DP.nck h, hk⟩⟩
instance {b : Bool} {t : TypeId} : Pu P (.un .not t (.bool b)) (fun k => k (.bool (!b))) := ⟨fun E d op ty pos af g hr k hk => by cases hr with | un h => exact ⟨_, DP.not h, hk⟩⟩
instance (priority := 1100) {p : Prop} {inst : Decidable p} {t : TypeId} : Pu P (.un .not t (.bool (@decide p inst))) (fun k => k (.bool (decide (¬ p)))) := ⟨fun E d op ty pos af g hr k hk => by cases hr with | un h => exact ⟨_, DP.to (DP.not h) (by simp), hk⟩⟩
instance (priority := 1200) {t : TypeId} : Pu P (.un .not t (.bool true)) (fun k => k (.bool false)) := ⟨fun E d op ty pos af g hr k hk => by cases hr with | un h => exact ⟨_, DP.not h, hk⟩⟩
instance (priority := 1200) {t : TypeId} : Pu P (.un .not t (.bool false)) (fun k => k (.bool true)) := ⟨fun E d op ty pos af g hr k hk => by cases hr with | un h => exact ⟨_, DP.not h, hk⟩⟩

/-- To be shown, and then to go on. -/
structure Vc (p q : Prop) : Prop where
  l : p
  r : q
/-- Either of two, the first if it may be. -/
def Ei (p a b : Prop) : Prop := (p ∧ a) ∨ b
theorem Ei.t {p a b : Prop} (h : p) (k : a) : Ei p a b := .inl ⟨h, k⟩
theorem Ei.f {p a b : Prop} (k : b) : Ei p a b := .inr k

section
variable {k : IntKind} {x y : Int} {a b l s : Nat} {t : TypeId}
instance [hl : Lim k l] [Uns k] [hs : Ad a b s] [h1 : Nn x a] [h2 : Nn y b] : Pu P (.bin .add t (.int k x) (.int k y)) (fun q => Ei (a + b < l) (q (.int k ((s : Nat) : Int))) (q (.int k (((a + b) % l : Nat) : Int)))) :=
  ⟨fun E d op ty pos af g hr q hk => by
    cases hr with | bin e1 e2 =>
    rw [h1.h] at e1; rw [h2.h] at e2
    rcases hk with ⟨hc, hk⟩ | hk
    · exact ⟨_, DP.add e1 e2 hl.h hc, by rw [hs.h]; exact hk⟩
    · exact ⟨_, DP.addW e1 e2 Uns.h hl.h, hk⟩⟩
instance [hl : Lim k l] [Sgn k] [hs : Ad a b s] [h1 : Nn x a] [h2 : Nn y b] : Pu P (.bin .add t (.int k x) (.int k y)) (fun q => Ei (a + b < l) (q (.int k ((s : Nat) : Int))) (Vc (k.fits ((a : Int) + b)) (q (.int k ((a : Int) + b))))) :=
  ⟨fun E d op ty pos af g hr q hk => by
    cases hr with | bin e1 e2 =>
    rw [h1.h] at e1; rw [h2.h] at e2
    rcases hk with ⟨hc, hk⟩ | ⟨hc, hk⟩
    · exact ⟨_, DP.add e1 e2 hl.h hc, by rw [hs.h]; exact hk⟩
    · exact ⟨_, DP.addI e1 e2 hc, hk⟩⟩
instance (priority := 500) : Pu P (.bin .add t (.int k x) (.int k y)) (fun q => Vc (k.fits (x + y)) (q (.int k (x + y)))) :=
  ⟨fun E d op ty pos af g hr q hk => by cases hr with | bin e1 e2 => exact ⟨_, DP.addI e1 e2 hk.1, hk.2⟩⟩
instance [hl : Lim k l] [Uns k] [h1 : Nn x a] [h2 : Nn y b] : Pu P (.bin .sub t (.int k x) (.int k y)) (fun q => Ei (b ≤ a ∧ a < l) (q (.int k ((a - b : Nat) : Int))) (Vc (b ≤ l) (q (.int k (((a + (l - b)) % l : Nat) : Int))))) :=
  ⟨fun E d op ty pos af g hr q hk => by
    cases hr with | bin e1 e2 =>
    rw [h1.h] at e1; rw [h2.h] at e2
    rcases hk with ⟨hc, hk⟩ | ⟨hc, hk⟩
    · exact ⟨_, DP.sub e1 e2 hl.h hc.1 hc.2, hk⟩
    · exact ⟨_, DP.subW e1 e2 Uns.h hl.h hc, hk⟩⟩
instance [hl : Lim k l] [Sgn k] [h1 : Nn x a] [h2 : Nn y b] : Pu P (.bin .sub t (.int k x) (.int k y)) (fun q => Ei (b ≤ a ∧ a < l) (q (.int k ((a - b : Nat) : Int))) (Vc (k.fits ((a : Int) - b)) (q (.int k ((a : Int) - b))))) :=
  ⟨fun E d op ty pos af g hr q hk => by
    cases hr with | bin e1 e2 =>
    rw [h1.h] at e1; rw [h2.h] at e2
    rcases hk with ⟨hc, hk⟩ | ⟨hc, hk⟩
    · exact ⟨_, DP.sub e1 e2 hl.h hc.1 hc.2, hk⟩
    · exact ⟨_, DP.subI e1 e2 hc, hk⟩⟩
instance (priority := 500) : Pu P (.bin .sub t (.int k x) (.int k y)) (fun q => Vc (k.fits (x - y)) (q (.int k (x - y)))) :=
  ⟨fun E d op ty pos af g hr q hk => by cases hr with | bin e1 e2 => exact ⟨_, DP.subI e1 e2 hk.1, hk.2⟩⟩
instance [hl : Lim k l] [Uns k] [h1 : Nn x a] [h2 : Nn y b] : Pu P (.bin .mul t (.int k x) (.int k y)) (fun q => Ei (a * b < l) (q (.int k ((a * b : Nat) : Int))) (q (.int k (((a * b) % l : Nat) : Int)))) :=
  ⟨fun E d op ty pos af g hr q hk => by
    cases hr with | bin e1 e2 =>
    rw [h1.h] at e1; rw [h2.h] at e2
    rcases hk with ⟨hc, hk⟩ | hk
    · exact ⟨_, DP.mul e1 e2 hl.h hc, hk⟩
    · exact ⟨_, DP.mulW e1 e2 Uns.h hl.h, hk⟩⟩
instance [hl : Lim k l] [Sgn k] [h1 : Nn x a] [h2 : Nn y b] : Pu P (.bin .mul t (.int k x) (.int k y)) (fun q => Vc (a * b < l) (q (.int k ((a * b : Nat) : Int)))) :=
  ⟨fun E d op ty pos af g hr q hk => by
    cases hr with | bin e1 e2 =>
    rw [h1.h] at e1; rw [h2.h] at e2
    exact ⟨_, DP.mul e1 e2 hl.h hk.1, hk.2⟩⟩
instance [hl : Lim k l] [h1 : Nn x a] [h2 : Nn y b] : Pu P (.bin .quo t (.int k x) (.int k y)) (fun q => Vc ((0 < b ∧ a < l)) (q (.int k ((a / b : Nat) : Int)))) :=
  ⟨fun E d op ty pos af g hr q hk => by
    cases hr with | bin e1 e2 =>
    rw [h1.h] at e1; rw [h2.h] at e2
    exact ⟨_, DP.quo e1 e2 hk.1.1 hl.h hk.1.2, hk.2⟩⟩
instance [h1 : Nn x a] [h2 : Nn y b] : Pu P (.bin .rem t (.int k x) (.int k y)) (fun q => Vc (0 < b) (q (.int k ((a % b : Nat) : Int)))) :=
  ⟨fun E d op ty pos af g hr q hk => by
    cases hr with | bin e1 e2 =>
    rw [h1.h] at e1; rw [h2.h] at e2
    exact ⟨_, DP.rem e1 e2 hk.1, hk.2⟩⟩
instance [hl : Lim k l] [h1 : Nn x a] [h2 : Nn y b] : Pu P (.bin .and t (.int k x) (.int k y)) (fun q => Vc ((a < l ∧ b < l)) (q (.int k ((a &&& b : Nat) : Int)))) :=
  ⟨fun E d op ty pos af g hr q hk => by
    cases hr with | bin e1 e2 =>
    rw [h1.h] at e1; rw [h2.h] at e2
    exact ⟨_, DP.band e1 e2 hl.h hk.1.1 hk.1.2, hk.2⟩⟩
instance [hl : Lim k l] [h1 : Nn x a] [h2 : Nn y b] : Pu P (.bin .or t (.int k x) (.int k y)) (fun q => Vc ((a < l ∧ b < l)) (q (.int k ((a ||| b : Nat) : Int)))) :=
  ⟨fun E d op ty pos af g hr q hk => by
    cases hr with | bin e1 e2 =>
    rw [h1.h] at e1; rw [h2.h] at e2
    exact ⟨_, DP.bor e1 e2 hl.h hk.1.1 hk.1.2, hk.2⟩⟩
instance [hl : Lim k l] [h1 : Nn x a] [h2 : Nn y b] : Pu P (.bin .xor t (.int k x) (.int k y)) (fun q => Vc ((a < l ∧ b < l)) (q (.int k ((a ^^^ b : Nat) : Int)))) :=
  ⟨fun E d op ty pos af g hr q hk => by
    cases hr with | bin e1 e2 =>
    rw [h1.h] at e1; rw [h2.h] at e2
    exact ⟨_, DP.bxor e1 e2 hl.h hk.1.1 hk.1.2, hk.2⟩⟩
instance {k' : IntKind} [hl : Lim k l] [Uns k] [h1 : Nn x a] [h2 : Nn y b] : Pu P (.bin .shl t (.int k x) (.int k' y)) (fun q => q (.int k ((a * 2 ^ b % l : Nat) : Int))) :=
  ⟨fun E d op ty pos af g hr q hk => by
    cases hr with | bin e1 e2 =>
    rw [h1.h] at e1; rw [h2.h] at e2
    exact ⟨_, DP.shl e1 e2 Uns.h hl.h, hk⟩⟩
instance {k' : IntKind} [hl : Lim k l] [h1 : Nn x a] [h2 : Nn y b] : Pu P (.bin .shr t (.int k x) (.int k' y)) (fun q => Vc (a < l) (q (.int k ((a / 2 ^ b : Nat) : Int)))) :=
  ⟨fun E d op ty pos af g hr q hk => by
    cases hr with | bin e1 e2 =>
    rw [h1.h] at e1; rw [h2.h] at e2
    exact ⟨_, DP.shr e1 e2 hl.h hk.1, hk.2⟩⟩
instance [h1 : Nn x a] [h2 : Nn y b] : Pu P (.bin .lss t (.int k x) (.int k y)) (fun q => q (.bool (decide (a < b)))) := ⟨fun E d op ty pos af g hr q hk => by cases hr with | bin e1 e2 => rw [h1.h] at e1; rw [h2.h] at e2; exact ⟨_, DP.lss e1 e2, hk⟩⟩
instance [h1 : Nn x a] [h2 : Nn y b] : Pu P (.bin .leq t (.int k x) (.int k y)) (fun q => q (.bool (decide (a ≤ b)))) := ⟨fun E d op ty pos af g hr q hk => by cases hr with | bin e1 e2 => rw [h1.h] at e1; rw [h2.h] at e2; exact ⟨_, DP.leq e1 e2, hk⟩⟩
instance [h1 : Nn x a] [h2 : Nn y b] : Pu P (.bin .gtr t (.int k x) (.int k y)) (fun q => q (.bool (decide (b < a)))) := ⟨fun E d op ty pos af g hr q hk => by cases hr with | bin e1 e2 => rw [h1.h] at e1; rw [h2.h] at e2; exact ⟨_, DP.gtr e1 e2, hk⟩⟩
instance [h1 : Nn x a] [h2 : Nn y b] : Pu P (.bin .geq t (.int k x) (.int k y)) (fun q => q (.bool (decide (b ≤ a)))) := ⟨fun E d op ty pos af g hr q hk => by cases hr with | bin e1 e2 => rw [h1.h] at e1; rw [h2.h] at e2; exact ⟨_, DP.geq e1 e2, hk⟩⟩
instance [h1 : Nn x a] [h2 : Nn y b] : Pu P (.bin .eql t (.int k x) (.int k y)) (fun q => q (.bool (decide (a = b)))) := ⟨fun E d op ty pos af g hr q hk => by cases hr with | bin e1 e2 => rw [h1.h] at e1; rw [h2.h] at e2; exact ⟨_, DP.eql e1 e2, hk⟩⟩
instance [h1 : Nn x a] [h2 : Nn y b] : Pu P (.bin .neq t (.int k x) (.int k y)) (fun q => q (.bool (decide (a ≠ b)))) := ⟨fun E d op ty pos af g hr q hk => by cases hr with | bin e1 e2 => rw [h1.h] at e1; rw [h2.h] at e2; exact ⟨_, DP.neq e1 e2, hk⟩⟩
instance (priority := 500) : Pu P (.bin .lss t (.int k x) (.int k y)) (fun q => q (.bool (decide (x < y)))) := ⟨fun E d op ty pos af g hr q hk => by cases hr with | bin e1 e2 => exact ⟨_, DP.lssI e1 e2, hk⟩⟩
instance (priority := 500) : Pu P (.bin .leq t (.int k x) (.int k y)) (fun q => q (.bool (decide (x ≤ y)))) := ⟨fun E d op ty pos af g hr q hk => by cases hr with | bin e1 e2 => exact ⟨_, DP.leqI e1 e2, hk⟩⟩
instance (priority := 500) : Pu P (.bin .gtr t (.int k x) (.int k y)) (fun q => q (.bool (decide (y < x)))) := ⟨fun E d op ty pos af g hr q hk => by cases hr with | bin e1 e2 => exact ⟨_, DP.gtrI e1 e2, hk⟩⟩
instance (priority := 500) : Pu P (.bin .geq t (.int k x) (.int k y)) (fun q => q (.bool (decide (y ≤ x)))) := ⟨fun E d op ty pos af g hr q hk => by cases hr with | bin e1 e2 => exact ⟨_, DP.geqI e1 e2, hk⟩⟩
instance (priority := 500) : Pu P (.bin .eql t (.int k x) (.int k y)) (fun q => q (.bool (decide (x = y)))) := ⟨fun E d op ty pos af g hr q hk => by cases hr with | bin e1 e2 => exact ⟨_, DP.eqlI e1 e2, hk⟩⟩
instance (priority := 500) : Pu P (.bin .neq t (.int k x) (.int k y)) (fun q => q (.bool (decide (x ≠ y)))) := ⟨fun E d op ty pos af g hr q hk => by cases hr with | bin e1 e2 => exact ⟨_, DP.neqI e1 e2, hk⟩⟩
/-- Conversions. -/
instance {k' : IntKind} {t t' : TypeId} {ds : TypeDesc} [hs : Und P t ds] [ht : Und P t' (.int k)] [hl : Lim k l] [Uns k] [h1 : Nn x a] : Pu P (.conv t t' (.int k' x)) (fun q => Ei (a < l) (q (.int k (a : Int))) (q (.int k ((a % l : Nat) : Int)))) :=
  ⟨fun E d op ty pos af g hr q hk => by
    cases hr with | conv e1 =>
    rw [h1.h] at e1
    rcases hk with ⟨hc, hk⟩ | hk
    · exact ⟨_, DP.cv e1 (by rw [hs.h]; rfl) ht.h hl.h hc, hk⟩
    · exact ⟨_, DP.cvW e1 (by rw [hs.h]; rfl) ht.h Uns.h hl.h, hk⟩⟩
instance {k' : IntKind} {t t' : TypeId} {ds : TypeDesc} [hs : Und P t ds] [ht : Und P t' (.int k)] [hl : Lim k l] [Sgn k] [h1 : Nn x a] : Pu P (.conv t t' (.int k' x)) (fun q => Ei (a < l) (q (.int k (a : Int))) (q (.int k (k.wrap (a : Int))))) :=
  ⟨fun E d op ty pos af g hr q hk => by
    cases hr with | conv e1 =>
    rw [h1.h] at e1
    rcases hk with ⟨hc, hk⟩ | hk
    · exact ⟨_, DP.cv e1 (by rw [hs.h]; rfl) ht.h hl.h hc, hk⟩
    · exact ⟨_, DP.cvX e1 (by rw [hs.h]; rfl) ht.h, hk⟩⟩
instance (priority := 500) {k' : IntKind} {t t' : TypeId} {ds : TypeDesc} [hs : Und P t ds] [ht : Und P t' (.int k)] : Pu P (.conv t t' (.int k' x)) (fun q => Ei (k.fits x) (q (.int k x)) (q (.int k (k.wrap x)))) :=
  ⟨fun E d op ty pos af g hr q hk => by
    cases hr with | conv e1 =>
    rcases hk with ⟨hc, hk⟩ | hk
    · exact ⟨_, DP.cvI e1 (by rw [hs.h]; rfl) ht.h hc, hk⟩
    · exact ⟨_, DP.cvX e1 (by rw [hs.h]; rfl) ht.h, hk⟩⟩
end
/-! strings -/
section
variable {l m : List UInt8} {t : TypeId}
instance : Pu P (.bin .add t (str l) (str m)) (fun q => Vc (l.length + m.length ≤ 9223372036854775807) (q (str (l ++ m)))) := ⟨fun E d op ty pos af g hr q hk => by cases hr with | bin e1 e2 => exact ⟨_, DP.cat e1 e2 hk.1, hk.2⟩⟩
instance : Pu P (.bin .eql t (str l) (str m)) (fun q => q (.bool (decide (l = m)))) := ⟨fun E d op ty pos af g hr q hk => by cases hr with | bin e1 e2 => exact ⟨_, DP.teql e1 e2, hk⟩⟩
instance : Pu P (.bin .neq t (str l) (str m)) (fun q => q (.bool (decide (l ≠ m)))) := ⟨fun E d op ty pos af g hr q hk => by cases hr with | bin e1 e2 => exact ⟨_, DP.tneq e1 e2, hk⟩⟩
instance [ht : Und P t .string] : Pu P (.builtin .len [str l] [t]) (fun q => q (.int .i64 (l.length : Nat))) := ⟨fun E d op ty pos af g hr q hk => by
    cases hr with | builtin e =>
    rename_i xs
    match xs, e with
    | [x], ⟨e1, _⟩ => exact ⟨_, DP.lenT e1 ht.h, hk⟩⟩
end
/-! pointers and slices against nil -/
section
variable {t e : TypeId}
instance {a : Addr} [ht : Und P t (.pointer e)] : Pu P (.bin .eql t (.pointer (some a)) (.pointer none)) (fun q => q (.bool false)) := ⟨fun E d op ty pos af g hr q hk => by cases hr with | bin e1 e2 => exact ⟨_, DP.peqS e1 e2 ht.h, hk⟩⟩
instance {a : Addr} [ht : Und P t (.pointer e)] : Pu P (.bin .neq t (.pointer (some a)) (.pointer none)) (fun q => q (.bool true)) := ⟨fun E d op ty pos af g hr q hk => by cases hr with | bin e1 e2 => exact ⟨_, DP.pneS e1 e2 ht.h, hk⟩⟩
instance [ht : Und P t (.pointer e)] : Pu P (.bin .eql t (.pointer none) (.pointer none)) (fun q => q (.bool true)) := ⟨fun E d op ty pos af g hr q hk => by cases hr with | bin e1 e2 => exact ⟨_, DP.peq0 e1 e2 ht.h, hk⟩⟩
instance [ht : Und P t (.pointer e)] : Pu P (.bin .neq t (.pointer none) (.pointer none)) (fun q => q (.bool false)) := ⟨fun E d op ty pos af g hr q hk => by cases hr with | bin e1 e2 => exact ⟨_, DP.pne0 e1 e2 ht.h, hk⟩⟩
instance (priority := 500) {p : Option Addr} [ht : Und P t (.pointer e)] : Pu P (.bin .eql t (.pointer p) (.pointer none)) (fun q => q (.bool p.isNone)) := ⟨fun E d op ty pos af g hr q hk => by cases hr with | bin e1 e2 => exact ⟨_, DP.peq e1 e2 ht.h, hk⟩⟩
instance (priority := 500) {p : Option Addr} [ht : Und P t (.pointer e)] : Pu P (.bin .neq t (.pointer p) (.pointer none)) (fun q => q (.bool (!p.isNone))) := ⟨fun E d op ty pos af g hr q hk => by cases hr with | bin e1 e2 => exact ⟨_, DP.pne e1 e2 ht.h, hk⟩⟩
instance {a : Option Addr} {n m n' m' : Nat} [ht : Und P t (.slice e)] : Pu P (.bin .eql t (.slice a n m) (.slice none n' m')) (fun q => q (.bool a.isNone)) := ⟨fun E d op ty pos af g hr q hk => by cases hr with | bin e1 e2 => exact ⟨_, DP.seqN e1 e2 ht.h, hk⟩⟩
instance {a : Option Addr} {n m n' m' : Nat} [ht : Und P t (.slice e)] : Pu P (.bin .neq t (.slice a n m) (.slice none n' m')) (fun q => q (.bool (!a.isNone))) := ⟨fun E d op ty pos af g hr q hk => by cases hr with | bin e1 e2 => exact ⟨_, DP.sneN e1 e2 ht.h, hk⟩⟩
instance {a b : Bool} [ht : Und P t .bool] : Pu P (.bin .eql t (.bool a) (.bool b)) (fun q => q (.bool (a == b))) := ⟨fun E d op ty pos af g hr q hk => by cases hr with | bin e1 e2 => exact ⟨_, DP.beql e1 e2 ht.h, hk⟩⟩
instance {a b : Bool} [ht : Und P t .bool] : Pu P (.bin .neq t (.bool a) (.bool b)) (fun q => q (.bool (a != b))) := ⟨fun E d op ty pos af g hr q hk => by cases hr with | bin e1 e2 => exact ⟨_, DP.bneq e1 e2 ht.h, hk⟩⟩
instance {a : Option Addr} {n m : Nat} [ht : Und P t (.slice e)] : Pu P (.builtin .len [.slice a n m] [t]) (fun q => q (.int .i64 (n : Nat))) := ⟨fun E d op ty pos af g hr q hk => by
    cases hr with | builtin e =>
    rename_i xs
    match xs, e with
    | [x], ⟨e1, _⟩ => exact ⟨_, DP.lenS e1 ht.h, hk⟩⟩
instance {a : Option Addr} {n m : Nat} [ht : Und P t (.slice e)] : Pu P (.builtin .cap [.slice a n m] [t]) (fun q => q (.int .i64 (m : Nat))) := ⟨fun E d op ty pos af g hr q hk => by
    cases hr with | builtin e =>
    rename_i xs
    match xs, e with
    | [x], ⟨e1, _⟩ => exact ⟨_, DP.capS e1 ht.h, hk⟩⟩
end
/-! addresses, fields -/
section
variable {t ft e : TypeId} {b o k fo n i len cap : Nat} {fs : List Field} {nm tg pk : String} {em : Bool} {bo : Nat}
instance [ht : Und P t (.struct fs.toArray)] [hf : GL fs k ⟨nm, ft, fo, em, tg, pk, bo⟩] [hz : Sz P ft n] : Pu P (.fieldAddr t (.pointer (some ⟨b, o, none⟩)) k) (fun q => q (.pointer (some ⟨b, o + fo, none⟩))) :=
  ⟨fun E d op ty pos af g hr q hk => by cases hr with | fieldAddr e1 => exact ⟨_, DP.fa fo e1 ht.h (by have := hf.h; simpa using this) rfl hz.h, hk⟩⟩
instance {cs : List Value} {v : Value} [ht : Und P t (.struct fs.toArray)] [hf : GL fs k ⟨nm, ft, fo, em, tg, pk, bo⟩] [hp : Pl P ft] [hv : GL cs fo v] : Pu P (.field t (.agg cs.toArray) k) (fun q => q v) :=
  ⟨fun E d op ty pos af g hr q hk => by cases hr with | field e1 => exact ⟨_, DP.fd1 fo e1 ht.h (by have := hf.h; simpa using this) rfl hp.h (by have := hv.h; simpa using this), hk⟩⟩
end
end
end Pw
