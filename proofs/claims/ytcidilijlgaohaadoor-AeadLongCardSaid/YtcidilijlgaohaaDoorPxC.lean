/- Lemmas for the proofs of this seat: no statement of the seat is claimed here. -/
import Derived.Test.YtcidilijlgaohaaDoorPxB
set_option linter.all false
namespace Pw
open Go
/-! ## Strings, and slices of bytes -/
section
variable {P : Program} {r : Rd} {c : Ctx} {L R : List Assn}
instance {l : List UInt8} {i : Nat} {x : Int} {t : TypeId} {k : IntKind} [ht : Und P t .string] [hx : Nn x i] : Pu P (.index t (str l) (.int k x)) (fun q => Vc (i < l.length) (q (byteV (gt l i)))) :=
  ⟨fun E d op ty pos af g hs q hq => by
    cases hs with | index e1 e2 =>
    rw [hx.h] at e2
    exact ⟨_, DP.ixT e1 e2 ht.h (gt_get hq.l), hq.r⟩⟩
instance {l : List UInt8} {i j : Nat} {x y : Int} {t : TypeId} {k k' : IntKind} [ht : Und P t .string] [hx : Nn x i] [hy : Nn y j] : Pu P (.slice t (str l) (some (.int k x)) (some (.int k' y)) none) (fun q => Vc (i ≤ j ∧ j ≤ l.length) (q (str ((l.take j).drop i)))) :=
  ⟨fun E d op ty pos af g hs q hq => by
    cases hs with | @slice _ _ lo hi mx _ _ _ _ e1 e2 e3 e4 =>
    cases lo with | none => simp at e2 | some lo =>
    cases hi with | none => simp at e3 | some hi =>
    cases mx with | some _ => simp at e4 | none =>
    simp only [Option.map_some, Option.some.injEq] at e2 e3
    rw [hx.h] at e2; rw [hy.h] at e3
    exact ⟨_, DP.slT e1 e2 e3 ht.h hq.l.1 hq.l.2, hq.r⟩⟩
instance {l : List UInt8} {i : Nat} {x : Int} {t : TypeId} {k : IntKind} [ht : Und P t .string] [hx : Nn x i] : Pu P (.slice t (str l) (some (.int k x)) none none) (fun q => Vc (i ≤ l.length) (q (str (l.drop i)))) :=
  ⟨fun E d op ty pos af g hs q hq => by
    cases hs with | @slice _ _ lo hi mx _ _ _ _ e1 e2 e3 e4 =>
    cases lo with | none => simp at e2 | some lo =>
    cases hi with | some _ => simp at e3 | none =>
    cases mx with | some _ => simp at e4 | none =>
    simp only [Option.map_some, Option.some.injEq] at e2
    rw [hx.h] at e2
    exact ⟨_, DP.slTl e1 e2 ht.h hq.l, hq.r⟩⟩
instance {l : List UInt8} {j : Nat} {y : Int} {t : TypeId} {k : IntKind} [ht : Und P t .string] [hy : Nn y j] : Pu P (.slice t (str l) none (some (.int k y)) none) (fun q => Vc (j ≤ l.length) (q (str (l.take j)))) :=
  ⟨fun E d op ty pos af g hs q hq => by
    cases hs with | @slice _ _ lo hi mx _ _ _ _ e1 e2 e3 e4 =>
    cases lo with | some _ => simp at e2 | none =>
    cases hi with | none => simp at e3 | some hi =>
    cases mx with | some _ => simp at e4 | none =>
    simp only [Option.map_some, Option.some.injEq] at e3
    rw [hy.h] at e3
    exact ⟨_, DP.slTh e1 e3 ht.h hq.l, hq.r⟩⟩
/-! slices of slices and of arrays -/
section
variable {b o len cap i j m n p : Nat} {x y z : Int} {t e : TypeId} {k k' k2 : IntKind} {o' : Nat}
/-- Where a part of a slice begins. -/
def offS (cap i o o' : Nat) : Nat := if cap = i then o else o'
theorem offS_ne {cap i o o' : Nat} (h : i < cap) : offS cap i o o' = o' := if_neg (by omega)
instance [ht : Und P t (.slice e)] [hs : Sz P e n] [hm : MulA i (n + 1) p] [ha : Ad o p o'] [hx : Nn x i] [hy : Nn y j] : Pu P (.slice t (.slice (some ⟨b, o, none⟩) len cap) (some (.int k x)) (some (.int k' y)) none) (fun q => Ei (i ≤ j ∧ j ≤ cap ∧ i < cap) (q (.slice (some ⟨b, o', none⟩) (j - i) (cap - i))) (Vc (i ≤ j ∧ j ≤ cap) (q (.slice (some ⟨b, offS cap i o o', none⟩) (j - i) (cap - i))))) :=
  ⟨fun E d op ty pos af g hr q hq => by
    cases hr with | @slice _ _ lo hi mx _ _ _ _ e1 e2 e3 e4 =>
    cases lo with | none => simp at e2 | some lo =>
    cases hi with | none => simp at e3 | some hi =>
    cases mx with | some _ => simp at e4 | none =>
    simp only [Option.map_some, Option.some.injEq] at e2 e3
    rw [hx.h] at e2; rw [hy.h] at e3
    rcases hq with ⟨⟨h1, h2, h3⟩, hq⟩ | ⟨⟨h1, h2⟩, hq⟩
    · have := DP.slS (d := d) (ty := ty) (pos := pos) (af := af) (g := g) e1 e2 e3 ht.h hs.h h1 h2
      rw [if_neg (by omega), hm.h, ha.h] at this
      exact ⟨_, this, hq⟩
    · have := DP.slS (d := d) (ty := ty) (pos := pos) (af := af) (g := g) e1 e2 e3 ht.h hs.h h1 h2
      rw [hm.h, ha.h] at this
      exact ⟨_, this, hq⟩⟩
instance [ht : Und P t (.slice e)] [hs : Sz P e n] [hm : MulA i (n + 1) p] [ha : Ad o p o'] [hx : Nn x i] [hy : Nn y j] [hz : Nn z m] : Pu P (.slice t (.slice (some ⟨b, o, none⟩) len cap) (some (.int k x)) (some (.int k' y)) (some (.int k2 z))) (fun q => Ei (i ≤ j ∧ j ≤ m ∧ m ≤ cap ∧ i < m) (q (.slice (some ⟨b, o', none⟩) (j - i) (m - i))) (Vc (i ≤ j ∧ j ≤ m ∧ m ≤ cap) (q (.slice (some ⟨b, offS m i o o', none⟩) (j - i) (m - i))))) :=
  ⟨fun E d op ty pos af g hr q hq => by
    cases hr with | @slice _ _ lo hi mx _ _ _ _ e1 e2 e3 e4 =>
    cases lo with | none => simp at e2 | some lo =>
    cases hi with | none => simp at e3 | some hi =>
    cases mx with | none => simp at e4 | some mx =>
    simp only [Option.map_some, Option.some.injEq] at e2 e3 e4
    rw [hx.h] at e2; rw [hy.h] at e3; rw [hz.h] at e4
    rcases hq with ⟨⟨h1, h2, h3, h4⟩, hq⟩ | ⟨⟨h1, h2, h3⟩, hq⟩
    · have := DP.slSm (d := d) (ty := ty) (pos := pos) (af := af) (g := g) e1 e2 e3 e4 ht.h hs.h h1 h2 h3
      rw [if_neg (by omega), hm.h, ha.h] at this
      exact ⟨_, this, hq⟩
    · have := DP.slSm (d := d) (ty := ty) (pos := pos) (af := af) (g := g) e1 e2 e3 e4 ht.h hs.h h1 h2 h3
      rw [hm.h, ha.h] at this
      exact ⟨_, this, hq⟩⟩
instance [ht : Und P t (.slice e)] [hs : Sz P e n] [hm : MulA i (n + 1) p] [ha : Ad o p o'] [hx : Nn x i] : Pu P (.slice t (.slice (some ⟨b, o, none⟩) len cap) (some (.int k x)) none none) (fun q => Ei (i ≤ len ∧ i < cap) (q (.slice (some ⟨b, o', none⟩) (len - i) (cap - i))) (Vc (i ≤ len) (q (.slice (some ⟨b, offS cap i o o', none⟩) (len - i) (cap - i))))) :=
  ⟨fun E d op ty pos af g hr q hq => by
    cases hr with | @slice _ _ lo hi mx _ _ _ _ e1 e2 e3 e4 =>
    cases lo with | none => simp at e2 | some lo =>
    cases hi with | some _ => simp at e3 | none =>
    cases mx with | some _ => simp at e4 | none =>
    simp only [Option.map_some, Option.some.injEq] at e2
    rw [hx.h] at e2
    rcases hq with ⟨⟨h1, h3⟩, hq⟩ | ⟨h1, hq⟩
    · have := DP.slSl (d := d) (ty := ty) (pos := pos) (af := af) (g := g) e1 e2 ht.h hs.h h1
      rw [if_neg (by omega), hm.h, ha.h] at this
      exact ⟨_, this, hq⟩
    · have := DP.slSl (d := d) (ty := ty) (pos := pos) (af := af) (g := g) e1 e2 ht.h hs.h h1
      rw [hm.h, ha.h] at this
      exact ⟨_, this, hq⟩⟩
instance [ht : Und P t (.slice e)] [hs : Sz P e n] [hy : Nn y j] : Pu P (.slice t (.slice (some ⟨b, o, none⟩) len cap) none (some (.int k' y)) none) (fun q => Vc (j ≤ cap) (q (.slice (some ⟨b, o, none⟩) j cap))) :=
  ⟨fun E d op ty pos af g hr q hq => by
    cases hr with | @slice _ _ lo hi mx _ _ _ _ e1 e2 e3 e4 =>
    cases lo with | some _ => simp at e2 | none =>
    cases hi with | none => simp at e3 | some hi =>
    cases mx with | some _ => simp at e4 | none =>
    simp only [Option.map_some, Option.some.injEq] at e3
    rw [hy.h] at e3
    exact ⟨_, DP.slSh e1 e3 ht.h hs.h hq.l, hq.r⟩⟩
instance [ht : Und P t (.array len e)] [hs : Sz P e n] [hm : MulA i (n + 1) p] [ha : Ad o p o'] [hx : Nn x i] : Pu P (.slice t (.pointer (some ⟨b, o, none⟩)) (some (.int k x)) none none) (fun q => Ei (i < len) (q (.slice (some ⟨b, o', none⟩) (len - i) (len - i))) (Vc (i ≤ len) (q (.slice (some ⟨b, offS len i o o', none⟩) (len - i) (len - i))))) :=
  ⟨fun E d op ty pos af g hr q hq => by
    cases hr with | @slice _ _ lo hi mx _ _ _ _ e1 e2 e3 e4 =>
    cases lo with | none => simp at e2 | some lo =>
    cases hi with | some _ => simp at e3 | none =>
    cases mx with | some _ => simp at e4 | none =>
    simp only [Option.map_some, Option.some.injEq] at e2
    rw [hx.h] at e2
    rcases hq with ⟨h3, hq⟩ | ⟨h1, hq⟩
    · have := DP.slAl (d := d) (ty := ty) (pos := pos) (af := af) (g := g) e1 e2 ht.h hs.h (by omega)
      rw [if_neg (by omega), hm.h, ha.h] at this
      exact ⟨_, this, hq⟩
    · have := DP.slAl (d := d) (ty := ty) (pos := pos) (af := af) (g := g) e1 e2 ht.h hs.h h1
      rw [hm.h, ha.h] at this
      exact ⟨_, this, hq⟩⟩
instance [ht : Und P t (.array len e)] [hs : Sz P e n] [hy : Nn y j] : Pu P (.slice t (.pointer (some ⟨b, o, none⟩)) none (some (.int k' y)) none) (fun q => Vc (j ≤ len) (q (.slice (some ⟨b, o, none⟩) j len))) :=
  ⟨fun E d op ty pos af g hr q hq => by
    cases hr with | @slice _ _ lo hi mx _ _ _ _ e1 e2 e3 e4 =>
    cases lo with | some _ => simp at e2 | none =>
    cases hi with | none => simp at e3 | some hi =>
    cases mx with | some _ => simp at e4 | none =>
    simp only [Option.map_some, Option.some.injEq] at e3
    rw [hy.h] at e3
    exact ⟨_, DP.slAh e1 e3 ht.h hs.h hq.l, hq.r⟩⟩
instance [ht : Und P t (.array len e)] [hs : Sz P e n] : Pu P (.slice t (.pointer (some ⟨b, o, none⟩)) none none none) (fun q => q (.slice (some ⟨b, o, none⟩) len len)) :=
  ⟨fun E d op ty pos af g hr q hq => by
    cases hr with | @slice _ _ lo hi mx _ _ _ _ e1 e2 e3 e4 =>
    cases lo with | some _ => simp at e2 | none =>
    cases hi with | some _ => simp at e3 | none =>
    cases mx with | some _ => simp at e4 | none =>
    exact ⟨_, DP.slAa e1 ht.h hs.h, hq⟩⟩
instance [ht : Und P t (.array len e)] [hs : Sz P e n] [hm : MulA i (n + 1) p] [ha : Ad o p o'] [hx : Nn x i] [hy : Nn y j] : Pu P (.slice t (.pointer (some ⟨b, o, none⟩)) (some (.int k x)) (some (.int k' y)) none) (fun q => Ei (i ≤ j ∧ j ≤ len ∧ i < len) (q (.slice (some ⟨b, o', none⟩) (j - i) (len - i))) (Vc (i ≤ j ∧ j ≤ len) (q (.slice (some ⟨b, offS len i o o', none⟩) (j - i) (len - i))))) :=
  ⟨fun E d op ty pos af g hr q hq => by
    cases hr with | @slice _ _ lo hi mx _ _ _ _ e1 e2 e3 e4 =>
    cases lo with | none => simp at e2 | some lo =>
    cases hi with | none => simp at e3 | some hi =>
    cases mx with | some _ => simp at e4 | none =>
    simp only [Option.map_some, Option.some.injEq] at e2 e3
    rw [hx.h] at e2; rw [hy.h] at e3
    rcases hq with ⟨⟨h1, h2, h3⟩, hq⟩ | ⟨⟨h1, h2⟩, hq⟩
    · have := DP.slAlh (d := d) (ty := ty) (pos := pos) (af := af) (g := g) e1 e2 e3 ht.h hs.h h1 h2
      rw [if_neg (by omega), hm.h, ha.h] at this
      exact ⟨_, this, hq⟩
    · have := DP.slAlh (d := d) (ty := ty) (pos := pos) (af := af) (g := g) e1 e2 e3 ht.h hs.h h1 h2
      rw [hm.h, ha.h] at this
      exact ⟨_, this, hq⟩⟩
end
/-! the least, the greatest -/
instance {k : IntKind} {x y : Int} {a b : Nat} {ts : List TypeId} [h1 : Nn x a] [h2 : Nn y b] : Pu P (.builtin .min [.int k x, .int k y] ts) (fun q => q (.int k ((min a b : Nat) : Int))) := ⟨fun E d op ty pos af g hs q hq => by
    cases hs with | builtin e =>
    rename_i xs
    match xs, e with
    | [x1, x2], ⟨e1, e2, _⟩ => rw [h1.h] at e1; rw [h2.h] at e2; exact ⟨_, DP.minN e1 e2, hq⟩⟩
instance {k : IntKind} {x y : Int} {a b : Nat} {ts : List TypeId} [h1 : Nn x a] [h2 : Nn y b] : Pu P (.builtin .max [.int k x, .int k y] ts) (fun q => q (.int k ((max a b : Nat) : Int))) := ⟨fun E d op ty pos af g hs q hq => by
    cases hs with | builtin e =>
    rename_i xs
    match xs, e with
    | [x1, x2], ⟨e1, e2, _⟩ => rw [h1.h] at e1; rw [h2.h] at e2; exact ⟨_, DP.maxN e1 e2, hq⟩⟩
instance (priority := 500) {k : IntKind} {x y : Int} {ts : List TypeId} : Pu P (.builtin .min [.int k x, .int k y] ts) (fun q => q (.int k (min x y))) := ⟨fun E d op ty pos af g hs q hq => by
    cases hs with | builtin e =>
    rename_i xs
    match xs, e with
    | [x1, x2], ⟨e1, e2, _⟩ => exact ⟨_, DP.minI e1 e2, hq⟩⟩
instance (priority := 500) {k : IntKind} {x y : Int} {ts : List TypeId} : Pu P (.builtin .max [.int k x, .int k y] ts) (fun q => q (.int k (max x y))) := ⟨fun E d op ty pos af g hs q hq => by
    cases hs with | builtin e =>
    rename_i xs
    match xs, e with
    | [x1, x2], ⟨e1, e2, _⟩ => exact ⟨_, DP.maxI e1 e2, hq⟩⟩
/-! between strings and slices of bytes -/
instance {a b e : TypeId} {l : List UInt8} [ha : Und P a .string] [hb : Und P b (.slice e)] [he : Und P e (.int .u8)] : St P c L (.conv a b (str l)) (fun q => ∀ b0 k, q (.slice (some ⟨b0, 0, none⟩) l.length k) (sl e 1 (.slice (some ⟨b0, 0, none⟩) l.length k) l.length (l.map byteV) :: L)) :=
  ⟨fun r E d op ty pos af g hs q hq => by
    cases hs with | conv e1 =>
    refine N.ent (N.csb e1 ha.h hb.h he.h) ?_
    rintro v L' ⟨b0, rest, rfl, rfl⟩
    refine ⟨sl e 1 (.slice (some ⟨b0, 0, none⟩) l.length (l.length + rest.length)) l.length (l.map byteV) :: L, Ent.sl (by simp) (by simp), hq b0 _⟩⟩
theorem D.cbsE {E : Env} {d : Option Tmp} {ty : TypeId} {pos : String} {af : Array Edge} {g : Option (Nat × Bool)} {x : Operand} {a : Option Addr} {n k : Nat} {l : List UInt8} {t t' e e' : TypeId} (hx : E.eval x = .slice a n k) (ht : P.underlying t = some (.slice e)) (ht' : P.underlying t' = some .string) (he : P.underlying e = some (.int .u8)) (hm : LMem (sl e' 1 (.slice a n k) n (l.map byteV)) L) :
    D P c L E ⟨d, .convert t t' x, ty, pos, af, g⟩ (str l) := by
  unfold D
  refine ⟨fun _ => by simp, fun w hw => ?_⟩
  obtain ⟨f1, hsl, hf⟩ := SLh.mem hm hw.2.2.2
  rcases hsl with ⟨hv, h0, hx0⟩ | ⟨b, k', rest, hv, hl, hr, hrow⟩
  · cases hv
    have hl0 : l = [] := by cases l with | nil => rfl | cons _ _ => cases hx0
    subst hl0
    have := DP.cbs0 (P := P) (d := d) (ty := ty) (pos := pos) (af := af) (g := g) hx ht ht' he
    unfold DP at this
    exact this.2 w
  · cases hv
    have := D.cbs (P := P) (c := c) (L := [row e' b (l.map byteV ++ rest)]) (d := d) (ty := ty) (pos := pos) (af := af) (g := g) (l := l) hx ht ht' he (by simpa using hl) (.head _ _) (ReadsN.row (fun i v hv => by rw [Nat.zero_add, List.getElem?_append_left (getS_lt hv)]; exact hv))
    unfold D at this
    refine this.2 w ⟨hw.1, hw.2.1, hw.2.2.1, f1, fun _ => none, fun _ => .inr rfl, hf, fun _ _ (h : none = some _) => (nomatch h), hrow, trivial⟩
instance {a b e e' : TypeId} {p : Option Addr} {n k : Nat} {l : List UInt8} [ha : Und P a (.slice e)] [hb : Und P b .string] [he : Und P e (.int .u8)] [hm : SlMem L (.slice p n k) e' 1 n (l.map byteV)] : Re P c L (.conv a b (.slice p n k)) (fun q => q (str l)) :=
  ⟨fun E d op ty pos af g hs q hq => by cases hs with | conv e1 => exact ⟨_, D.cbsE e1 ha.h hb.h he.h hm.h, hq⟩⟩
instance (priority := 900) {a b e e' : TypeId} {p o n k : Nat} {l : List UInt8} [ha : Und P a (.slice e)] [hb : Und P b .string] [he : Und P e (.int .u8)] [hm : RowAt L p e' (l.map byteV)] : Re P c L (.conv a b (.slice (some ⟨p, o, none⟩) n k)) (fun q => Vc (o + n ≤ l.length) (q (str ((l.drop o).take n)))) :=
  ⟨fun E d op ty pos af g hs q hq => by
    cases hs with | conv e1 =>
    have hl := hq.l
    refine ⟨_, D.cbs (l := (l.drop o).take n) e1 ha.h hb.h he.h (by simp; omega) hm.h (ReadsN.row fun i v hv => ?_), hq.r⟩
    rw [List.map_take, List.map_drop] at hv
    exact drop_reads i v hv⟩
instance {t xt e e' : TypeId} {a : Option Addr} {n k by_ : Nat} {xs ys zs : List Value} {l : List UInt8} {z : Value} {C : Prop} [ht : Und P t (.slice e)] [hxt : Und P xt .string] [hz : Sz P e 0] [hb : By P e by_] [hzr : Zr P e z] [hcz : Cel z zs] [hlz : Len zs 1]
    [hd : SlAt L (.slice a n k) e' 1 n xs R] [ha : AppV xs (l.map byteV) ys C] :
    St P c L (.builtin .append [.slice a n k, str l] [t, xt]) (fun q => Vc (e' = e ∧ (n + l.length) * (by_ + 1) ≤ 140737488355328 ∧ C) (∀ a2 k2, q (.slice a2 (n + l.length) k2) (sl e 1 (.slice a2 (n + l.length) k2) (n + l.length) ys :: R))) :=
  ⟨fun r E d op ty pos af g hs q hq => by
    cases hs with | builtin ev =>
    rename_i xs_
    obtain ⟨⟨rfl, hlim, hC⟩, hq⟩ := hq
    match xs_, ev with
    | [x, y], ⟨e1, e3, _⟩ =>
      refine (N.app e1 e3 ht.h hz.h hb.h hzr.h (cellsL_eq z) (by rw [hcz.h]; exact hlz.h) hd.h (Src.str hxt.h rfl) (fun u hu => by obtain ⟨x, _, rfl⟩ := List.mem_map.1 hu; rfl) hlim).imp2 fun v L' w h5 hw => ?_
      subst h5
      obtain ⟨a2, k2, rfl⟩ := hw.sl_form
      rw [ha.h hC]
      exact hq a2 k2⟩
/-! make -/
class RepV (zs : List Value) (n : Nat) (ys : outParam (List Value)) : Prop where h : (List.replicate n zs).flatten = ys
instance (priority := 100) {zs : List Value} {n : Nat} : RepV zs n (List.replicate n zs).flatten := ⟨rfl⟩
theorem rep_map {α : Type} (f : α → Value) (x : α) : ∀ n, (List.replicate n [f x]).flatten = (List.replicate n x).map f
  | 0 => rfl
  | n + 1 => by rw [List.replicate_succ, List.flatten_cons, rep_map f x n, List.replicate_succ]; rfl
instance {n : Nat} : RepV [.int .u8 0] n ((List.replicate n (0 : UInt8)).map byteV) := ⟨rep_map byteV 0 n⟩
instance {t e : TypeId} {k k' : IntKind} {x y : Int} {n sz by_ : Nat} {z : Value} {zs ys : List Value} [ht : Und P t (.slice e)] [hs : Sz P e sz] [hb : By P e by_] [hz : Zr P e z] [hc : Cel z zs] [hl : Len zs (sz + 1)] [hr : RepV zs n ys] [hx : Nn x n] [hy : Nn y n] :
    St P c L (.mkSlice t (.int k x) (.int k' y)) (fun q => Vc (n * (by_ + 1) ≤ 281474976710656) (∀ b, q (.slice (some ⟨b, 0, none⟩) n n) (sl e (sz + 1) (.slice (some ⟨b, 0, none⟩) n n) n ys :: L))) :=
  ⟨fun r E d op ty pos af g hs' q hq => by
    cases hs' with | mkSlice e1 e2 =>
    rw [hx.h] at e1; rw [hy.h] at e2
    refine N.ent (N.mk e1 e2 ht.h hs.h hb.h hz.h (cellsL_eq z) (by rw [hc.h]; exact hl.h) hq.l) ?_
    rintro v L' ⟨b, rfl, rfl⟩
    refine ⟨sl e (sz + 1) (.slice (some ⟨b, 0, none⟩) n n) n ys :: L, ?_, hq.r b⟩
    have h1 : (List.replicate n (cellsL z)).flatten = ys := by rw [hc.h]; exact hr.h
    rw [h1]
    have h2 : ys.length = n * (sz + 1) := by rw [← h1, flatten_rep_length, hc.h, hl.h]
    have h3 := Ent.sl (c := c) (L := L) (e := e) (b := b) (n := n) (sz := sz + 1) (k := 0) (xs := ys) (rest := []) h2 (by simp)
    rw [List.append_nil, Nat.add_zero] at h3
    exact h3⟩
/-! slices made of several parts -/
class RepL (n : Nat) (zs : List Value) (rs : outParam (List Value)) : Prop where h : (List.replicate n zs).flatten = rs
class AppC (a b : List Value) (l : outParam (List Value)) : Prop where h : a ++ b = l
instance {b : List Value} : AppC [] b b := ⟨rfl⟩
instance {x : Value} {a b l : List Value} [h : AppC a b l] : AppC (x :: a) b (x :: l) := ⟨by rw [← h.h]; rfl⟩
instance {zs : List Value} : RepL 0 zs [] := ⟨rfl⟩
instance {n : Nat} {zs rs us : List Value} [h : RepL n zs rs] [h2 : AppC zs rs us] : RepL (n + 1) zs us := ⟨by rw [List.replicate_succ, List.flatten_cons, h.h]; exact h2.h⟩
instance (priority := 900) {t e : TypeId} {n sz m : Nat} {vs : List (Nat × Value)} {z : Value} {zs rs us : List Value} [ht : Und P t (.slice e)] [hz : Sz P e sz] [hr : Zr P e z] [hcz : Cel z zs] [hlz : Len zs (sz + 1)] [hrp : RepL n zs rs] [hf : FilA (sz + 1) rs vs us] [hlu : Len us m] : St P c L (.buildSlice t n vs) (fun k => Vc (n * (sz + 1) ≤ 16777216 ∧ m = n * (sz + 1)) (∀ b, k (.slice (some ⟨b, 0, none⟩) n n) (sl e (sz + 1) (.slice (some ⟨b, 0, none⟩) n n) n us :: L))) :=
  ⟨fun r E d op ty pos af g hs k hk => by
    cases hs with | buildSlice e1 =>
    exact N.ent (N.bsL e1 ht.h hz.h hr.h (by rw [hcz.h]; exact hlz.h) hk.l.1 (by rw [hcz.h, hrp.h]; exact hf.h)) fun v L' hq => by
      obtain ⟨b, h1, h2⟩ := hq
      rw [h1, h2]
      exact ⟨_, Ent.slP (by rw [hlu.h]; exact hk.l.2), hk.r b⟩⟩
end
end Pw
