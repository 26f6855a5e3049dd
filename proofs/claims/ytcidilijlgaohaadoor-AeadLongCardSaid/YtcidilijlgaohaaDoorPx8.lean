/- Lemmas for the proofs of this seat: no statement of the seat is claimed here. -/
import Derived.Test.YtcidilijlgaohaaDoorPx7
set_option linter.all false
namespace Pw
open Go
/-! ## Slices by their elements -/
theorem eA_some (b o j : Nat) : eA (some ⟨b, o, none⟩) j = some ⟨b, o + j, none⟩ := rfl
section
variable {P : Program} {r : Rd} {c : Ctx} {L R : List Assn} {E : Env} {d : Option Tmp} {ty : TypeId} {pos : String} {af : Array Edge} {g : Option (Nat × Bool)}
theorem D.slW {o : Oper} {u : Value} {a : Option Addr} {e : TypeId} {sz n k : Nat} {xs : List Value} (hm : LMem (sl e sz (.slice a n k) n xs) L)
    (h : ∀ w : World, ((n = 0 ∧ xs = []) ∨ ∃ b, a = some ⟨b, 0, none⟩ ∧ xs.length = n * sz ∧ ∀ j x, xs[j]? = some x → w.cell? ⟨b, j, none⟩ = some x) → (execOp E.eval o).run P w = .ok (.value u) w) (hd : ∀ d, o.op ≠ .defer d) : D P c L E o u := by
  unfold D
  refine ⟨hd, fun w hw => h w ?_⟩
  obtain ⟨f1, hsl, hf⟩ := SLh.mem hm hw.2.2.2
  rcases hsl with ⟨_, h0, hx⟩ | ⟨b, k', rest, hv, hl, hr, hrow⟩
  · exact .inl ⟨h0, hx⟩
  · cases hv
    refine .inr ⟨b, rfl, hl, fun j x hx => ?_⟩
    have hj : j < xs.length := by
      rcases Nat.lt_or_ge j xs.length with h | h
      · exact h
      · rw [List.getElem?_eq_none h] at hx; cases hx
    exact Reads.row (e := e) (cs := xs ++ rest) (by rw [List.getElem?_append_left hj]; exact hx) f1 w hrow hf
theorem getS_lt {α : Type} {l : List α} {i : Nat} {x : α} (h : l[i]? = some x) : i < l.length := by
  rcases Nat.lt_or_ge i l.length with h5 | h5
  · exact h5
  · rw [List.getElem?_eq_none h5] at h; cases h
theorem D.iasE {x y : Operand} {a : Option Addr} {n m i sz : Nat} {t e e' : TypeId} {k : IntKind} {xs : List Value} (hx : E.eval x = .slice a n m) (hy : E.eval y = .int k i) (ht : P.underlying t = some (.slice e)) (hz : P.cellsOf e = sz + 1) (hm : LMem (sl e' (sz + 1) (.slice a n m) n xs) L) (hi : i < n) :
    D P c L E ⟨d, .indexAddr t x y, ty, pos, af, g⟩ (.pointer (eA a (i * (sz + 1)))) :=
  D.slW hm (fun w hw => by
    rcases hw with ⟨h0, _⟩ | ⟨b, ha, _, _⟩
    · omega
    · subst ha
      exact (by have := DP.ias (E := E) (P := P) (d := d) (ty := ty) (pos := pos) (af := af) (g := g) hx hy ht hz hi; unfold DP at this; exact this.2 w)) (fun _ => by simp)
theorem D.faE (fo : Nat) {x : Operand} {a : Option Addr} {n j m k i : Nat} {t : TypeId} {fs : Array Field} {f : Field} {e' : TypeId} {sz q : Nat} {xs : List Value} (hx : E.eval x = .pointer (eA a j)) (ht : P.underlying t = some (.struct fs)) (hf : fs[k]? = some f) (hfo : f.offset = fo) (hz : P.cellsOf f.type = m + 1) (hm : LMem (sl e' sz (.slice a n q) n xs) L) (hi : i < n) :
    D P c L E ⟨d, .fieldAddr t x k, ty, pos, af, g⟩ (.pointer (eA a (j + fo))) :=
  D.slW hm (fun w hw => by
    rcases hw with ⟨h0, _⟩ | ⟨b, ha, _, _⟩
    · omega
    · subst ha
      have := DP.fa fo (E := E) (P := P) (d := d) (ty := ty) (pos := pos) (af := af) (g := g) hx ht hf hfo hz
      unfold DP at this
      have h2 := this.2 w
      rw [Nat.add_assoc] at h2
      exact h2) (fun _ => by simp)
theorem D.ldE {x : Operand} {a : Option Addr} {u : Value} {n j k sz : Nat} {t e : TypeId} {xs : List Value} (hx : E.eval x = .pointer (eA a j)) (ht : plainT P t = true) (hm : LMem (sl e sz (.slice a n k) n xs) L) (hu : xs[j]? = some u) : D P c L E ⟨d, .load t x, ty, pos, af, g⟩ u :=
  D.slW hm (fun w hw => by
    rcases hw with ⟨_, h0⟩ | ⟨b, ha, _, hr⟩
    · rw [h0] at hu; cases hu
    · subst ha
      have hc := hr j u hu
      rw [eA_some, Nat.zero_add] at hx
      simp [execOp, hx, Instr.loadAt, Instr.sureAddr, loadVar, run_isAgg_plain ht, hc]) (fun _ => by simp)
theorem D.ldEA {x : Operand} {a : Option Addr} {us : List Value} {n j k sz s : Nat} {t e : TypeId} {xs : List Value} (hx : E.eval x = .pointer (eA a j)) (ht : aggT P t = true) (hs : P.cellsOf t = s + 1) (hm : LMem (sl e sz (.slice a n k) n xs) L) (hu : ∀ i u, us[i]? = some u → xs[j + i]? = some u) (hl : us.length = s + 1) : D P c L E ⟨d, .load t x, ty, pos, af, g⟩ (.agg us.toArray) :=
  D.slW hm (fun w hw => by
    have h1 := hu 0 us[0] (by simp)
    rcases hw with ⟨_, h0⟩ | ⟨b, ha, _, hr⟩
    · rw [h0] at h1; cases h1
    · subst ha
      rw [eA_some, Nat.zero_add] at hx
      have hc := run_loadCells' (P := P) (w := w) (b := b) (o := j) (vs := us) (fun i u hj => hr _ u (hu i u hj))
      rw [hl] at hc
      simp [execOp, hx, Instr.loadAt, Instr.sureAddr, loadVar, run_isAgg_agg ht, run_sizeOf hs, hc]) (fun _ => by simp)
/-- A slice that is held as a source. -/
theorem srcOfSl {sz n k : Nat} {xt e e' : TypeId} {a : Option Addr} {xs : List Value} (ht : P.underlying xt = some (.slice e)) (hm : LMem (sl e' sz (.slice a n k) n xs) L) (hl : xs.length = n * sz) : Src P c L sz xt (.slice a n k) n xs :=
  ⟨⟨_, ht, by simp⟩, fun w => by simp [Builtin.lenOf], fun w hw q hq => by
    obtain ⟨f1, hsl, hf⟩ := SLh.mem hm hw.2.2.2
    rcases hsl with ⟨hv, h0, hx⟩ | ⟨b, k', rest, hv, hl, hr, hrow⟩
    · cases hv; subst hx
      obtain rfl : q = 0 := by omega
      simp [Builtin.firstCells]
    · cases hv
      have h1 : (xs.take (q * sz)).length = q * sz := by rw [List.length_take, hl]; exact Nat.min_eq_left (Nat.mul_le_mul_right _ hq)
      have := run_loadCells' (P := P) (w := w) (b := b) (o := 0) (vs := xs.take (q * sz)) (fun i v hv => by
        have h5 := getS_lt hv
        rw [List.getElem?_take] at hv
        split at hv
        · have h6 := getS_lt hv
          rw [Nat.zero_add]
          exact Reads.row (e := e') (cs := xs ++ rest) (by rw [List.getElem?_append_left h6]; exact hv) f1 w hrow hf
        · cases hv)
      rw [h1] at this
      simp only [Builtin.firstCells]
      by_cases hz : q * sz = 0
      · rw [hz] at this ⊢; simpa using this
      · simpa using this, hl⟩
theorem srcOfSl' {sz n k : Nat} {e' : TypeId} {a : Option Addr} {xs : List Value} {o : Oper} {Φ : Value → List Assn → Prop} (hm : LMem (sl e' sz (.slice a n k) n xs) L) (h : xs.length = n * sz → N P r c L E o Φ) : N P r c L E o Φ := by
  unfold N at *
  intro w hw
  obtain ⟨f1, hsl, hf⟩ := SLh.mem hm hw.2.2.2
  exact h (sl.len hsl) w hw
end
class SlMem (L : List Assn) (v : Value) (e : outParam TypeId) (sz n : outParam Nat) (xs : outParam (List Value)) : Prop where h : LMem (sl e sz v n xs) L
instance (priority := 1100) {L : List Assn} {v : Value} {e : TypeId} {sz n : Nat} {xs : List Value} : SlMem (sl e sz v n xs :: L) v e sz n xs := ⟨.head _ _⟩
instance {A : Assn} {L : List Assn} {v : Value} {e : TypeId} {sz n : Nat} {xs : List Value} [h : SlMem L v e sz n xs] : SlMem (A :: L) v e sz n xs := ⟨.tail h.h⟩
/-- All of one cell each. -/
class OnesL (xs : List Value) : Prop where h : ∀ u ∈ xs, u.oneCell' = true
instance : OnesL [] := ⟨fun _ h => by cases h⟩
instance {a : Value} {l : List Value} [h1 : One a] [h2 : OnesL l] : OnesL (a :: l) := ⟨fun v h => by rcases List.mem_cons.1 h with rfl | h; exact h1.h; exact h2.h v h⟩
instance {α : Type} {f : α → Value} {l : List α} [h : ∀ x, One (f x)] : OnesL (l.map f) := ⟨fun u hu => by obtain ⟨x, _, rfl⟩ := List.mem_map.1 hu; exact (h x).h⟩
instance {α : Type} {f : α → List Value} {l : List α} [h : ∀ x, OnesL (f x)] : OnesL (l.flatMap f) := ⟨fun u hu => by obtain ⟨x, _, hx⟩ := List.mem_flatMap.1 hu; exact (h x).h u hx⟩
instance {l m : List Value} [h1 : OnesL l] [h2 : OnesL m] : OnesL (l ++ m) := ⟨fun u hu => by rcases List.mem_append.1 hu with h | h; exact h1.h u h; exact h2.h u h⟩
/-- What xs with news behind it is, as a list of elements. -/
class AppV (xs news : List Value) (ys : outParam (List Value)) (C : outParam Prop) : Prop where h : C → xs ++ news = ys
instance (priority := 100) {xs news : List Value} : AppV xs news (xs ++ news) True := ⟨fun _ => rfl⟩
class Inv {α : Type} (f : α → Value) (v : Value) (x : outParam α) (C : outParam Prop) : Prop where h : C → f x = v
class InvL {α : Type} (f : α → List Value) (vs : List Value) (x : outParam α) : Prop where h : f x = vs
instance {α : Type} {f : α → Value} {l : List α} {v : Value} {x : α} {C : Prop} [h : Inv f v x C] : AppV (l.map f) [v] ((l ++ [x]).map f) C := ⟨fun hc => by rw [← h.h hc]; simp⟩
instance {α : Type} {f : α → List Value} {l : List α} {vs : List Value} {x : α} [h : InvL f vs x] : AppV (l.flatMap f) vs ((l ++ [x]).flatMap f) True := ⟨fun _ => by rw [← h.h]; simp⟩
instance (priority := 900) {α : Type} {f : α → Value} {l m : List α} : AppV (l.map f) (m.map f) ((l ++ m).map f) True := ⟨fun _ => by simp⟩
instance (priority := 900) {α : Type} {f : α → List Value} {l m : List α} : AppV (l.flatMap f) (m.flatMap f) ((l ++ m).flatMap f) True := ⟨fun _ => by simp⟩
instance (priority := 1050) {α : Type} {f : α → Value} {m : List α} : AppV [] (m.map f) (m.map f) True := ⟨fun _ => by simp⟩
instance (priority := 1050) {α : Type} {f : α → List Value} {m : List α} : AppV [] (m.flatMap f) (m.flatMap f) True := ⟨fun _ => by simp⟩
/-- What xs with its j-th cell turned is. -/
class SetV (xs : List Value) (j : Nat) (v : Value) (ys : outParam (List Value)) (C : outParam Prop) : Prop where h : C → xs.set j v = ys ∧ j < xs.length
instance {α : Type} {f : α → Value} {l : List α} {j : Nat} {v : Value} {x : α} {C : Prop} [h : Inv f v x C] : SetV (l.map f) j v ((l.set j x).map f) (j < l.length ∧ C) := ⟨fun hj => by rw [← h.h hj.2]; simp [List.map_set, hj.1]⟩
instance (priority := 500) {xs ys : List Value} {j : Nat} {v : Value} [h : SLs xs j v ys] : SetV xs j v ys True := ⟨fun _ => h.h⟩
theorem flat_set1 {α : Type} [Inhabited α] {f : α → List Value} {k : Nat} (hf : ∀ x, (f x).length = k) (l : List α) {i o : Nat} (hi : i < l.length) (ho : o < k) {v : Value} {x : α} (hx : (f (gt l i)).set o v = f x) : (l.flatMap f).set (i * k + o) v = (l.set i x).flatMap f := by
  have h1 := gt_get hi
  apply List.ext_getElem?
  intro j
  by_cases hk : k = 0
  · omega
  obtain ⟨q, s, hs, rfl⟩ : ∃ q s, s < k ∧ j = q * k + s := ⟨j / k, j % k, Nat.mod_lt _ (by omega), by rw [Nat.mul_comm]; exact (Nat.div_add_mod j k).symm⟩
  rw [List.getElem?_set, flat_get hf _ _ _ hs, flat_get hf _ _ _ hs, List.getElem?_set]
  by_cases hq : i = q
  · subst hq
    rw [h1]
    simp only [hi, if_true, Option.bind_some]
    rw [← hx, List.getElem?_set]
    by_cases ho' : o = s
    · subst ho'
      have : i * k + o < (l.flatMap f).length := by
        rw [flat_len hf]
        have : (i + 1) * k ≤ l.length * k := Nat.mul_le_mul_right _ hi
        rw [Nat.add_mul] at this; omega
      rw [if_pos rfl, if_pos this]; simp [hf, ho]
    · rw [if_neg (by omega), if_neg ho']
  · have : ¬ (i * k + o = q * k + s) := by
      intro h2
      rcases Nat.lt_or_gt_of_ne hq with h3 | h3
      · have := Nat.mul_le_mul_right k h3
        rw [Nat.succ_mul] at this; omega
      · have := Nat.mul_le_mul_right k h3
        rw [Nat.succ_mul] at this; omega
    rw [if_neg this, if_neg hq]
instance {α : Type} [Inhabited α] {f : α → List Value} {l : List α} {i sz o : Nat} {v : Value} {x : α} [hf : FLen f sz] [hs : SetF f (gt l i) o v x] : SetV (l.flatMap f) (i * sz + o) v ((l.set i x).flatMap f) (i < l.length) :=
  ⟨fun hi => by
    have ho : o < sz := by rw [← hf.h (gt l i)]; exact hs.h.2
    refine ⟨flat_set1 hf.h l hi ho hs.h.1, ?_⟩
    rw [flat_len hf.h]
    have : (i + 1) * sz ≤ l.length * sz := Nat.mul_le_mul_right _ hi
    rw [Nat.add_mul] at this; omega⟩
section
variable {P : Program} {r : Rd} {c : Ctx} {L R : List Assn}
/-! ### the instances -/
instance {x : Int} {t e e' : TypeId} {a : Option Addr} {n m i : Nat} {k : IntKind} {xs : List Value} [ht : Und P t (.slice e)] [hz : Sz P e 0] [hm : SlMem L (.slice a n m) e' 1 n xs] [h1 : Nn x i] : Re P c L (.indexAddr t (.slice a n m) (.int k x)) (fun q => Vc (i < n) (q (.pointer (eA a i)))) :=
  ⟨fun E d op ty pos af g hs q hq => by
    cases hs with | indexAddr e1 e2 =>
    rw [h1.h] at e2
    have := D.iasE (d := d) (ty := ty) (pos := pos) (af := af) (g := g) e1 e2 ht.h hz.h hm.h hq.l (P := P) (c := c)
    rw [Nat.zero_add, Nat.mul_one] at this
    exact ⟨_, this, hq.r⟩⟩
instance (priority := 900) {x : Int} {t e e' : TypeId} {a : Option Addr} {n m i sz sz' : Nat} {k : IntKind} {xs : List Value} [ht : Und P t (.slice e)] [hz : Sz P e sz] [hm : SlMem L (.slice a n m) e' sz' n xs] [h1 : Nn x i] : Re P c L (.indexAddr t (.slice a n m) (.int k x)) (fun q => Vc (sz' = sz + 1 ∧ i < n) (q (.pointer (eA a (i * sz'))))) :=
  ⟨fun E d op ty pos af g hs q hq => by
    cases hs with | indexAddr e1 e2 =>
    rw [h1.h] at e2
    obtain ⟨⟨rfl, hi⟩, hq⟩ := hq
    exact ⟨_, D.iasE e1 e2 ht.h hz.h hm.h hi, hq⟩⟩
instance {t ft e : TypeId} {a : Option Addr} {j k fo n m q sz : Nat} {xs : List Value} {fs : List Field} {nm tg pk : String} {em : Bool} {bo : Nat} [ht : Und P t (.struct fs.toArray)] [hf : GL fs k ⟨nm, ft, fo, em, tg, pk, bo⟩] [hz : Sz P ft m] [hr : ElAt L a e sz n q xs R] : Re P c L (.fieldAddr t (.pointer (eA a j)) k) (fun z => Vc (0 < n) (z (.pointer (eA a (j + fo))))) :=
  ⟨fun E d op ty pos af g hs z hq => by cases hs with | fieldAddr e1 => exact ⟨_, D.faE fo (i := 0) e1 ht.h (by have := hf.h; simpa using this) rfl hz.h (Del.lmem hr.h) hq.l, hq.r⟩⟩
instance {t e : TypeId} {a : Option Addr} {j n k sz : Nat} {xs : List Value} {v : Value} {C : Prop} [hp : Pl P t] [hr : ElAt L a e sz n k xs R] [hv : ElV xs j v C] : Re P c L (.load t (.pointer (eA a j))) (fun q => Vc C (q v)) :=
  ⟨fun E d op ty pos af g hs q hq => by cases hs with | load e1 => exact ⟨_, D.ldE e1 hp.h (Del.lmem hr.h) (hv.h hq.l), hq.r⟩⟩
instance {α : Type} [Inhabited α] {f : α → List Value} {l : List α} {t e : TypeId} {a : Option Addr} {i n k sz s : Nat} [hp : Ag P t] [hz : Sz P t s] [hr : ElAt L a e sz n k (l.flatMap f) R] [hf : FLen f sz] : Re P c L (.load t (.pointer (eA a (i * sz)))) (fun q => Vc (sz = s + 1 ∧ i < l.length) (q (.agg (f (gt l i)).toArray))) :=
  ⟨fun E d op ty pos af g hs q hq => by
    cases hs with | load e1 =>
    obtain ⟨⟨hz2, hi⟩, hq⟩ := hq
    exact ⟨_, D.ldEA e1 hp.h hz.h (Del.lmem hr.h) (flat_elem hf.h (gt_get hi)) (by rw [hf.h, hz2]), hq⟩⟩
/-- append. -/
instance {t xt e e' e'' e2 : TypeId} {a a' : Option Addr} {n k m k' sz sz' sz'' by_ : Nat} {xs news ys zs : List Value} {z : Value} {C : Prop} [ht : Und P t (.slice e)] [hxt : Und P xt (.slice e2)] [hz : Sz P e sz] [hb : By P e by_] [hzr : Zr P e z] [hcz : Cel z zs] [hlz : Len zs (sz + 1)]
    [hd : SlAt L (.slice a n k) e' sz' n xs R] [hm : SlMem L (.slice a' m k') e'' sz'' m news] [ho : OnesL news] [ha : AppV xs news ys C] :
    St P c L (.builtin .append [.slice a n k, .slice a' m k'] [t, xt]) (fun q => Vc (e' = e ∧ sz' = sz + 1 ∧ sz'' = sz + 1 ∧ (n + m) * (by_ + 1) ≤ 140737488355328 ∧ C) (∀ a2 k2, q (.slice a2 (n + m) k2) (sl e (sz + 1) (.slice a2 (n + m) k2) (n + m) ys :: R))) :=
  ⟨fun r E d op ty pos af g hs q hq => by
    cases hs with | builtin ev =>
    rename_i xs_
    obtain ⟨⟨rfl, rfl, rfl, hlim, hC⟩, hq⟩ := hq
    match xs_, ev with
    | [x, y], ⟨e1, e3, _⟩ =>
      refine srcOfSl' hm.h fun hl => ?_
      refine (N.app e1 e3 ht.h hz.h hb.h hzr.h (cellsL_eq z) (by rw [hcz.h]; exact hlz.h) hd.h (srcOfSl hxt.h hm.h hl) ho.h hlim).imp2 fun v L' w h5 hw => ?_
      subst h5
      obtain ⟨a2, k2, rfl⟩ := hw.sl_form
      rw [ha.h hC]
      exact hq a2 k2⟩
end

section
variable {P : Program} {r : Rd} {c : Ctx} {L : List Assn}
instance (priority := 1100) {t e : TypeId} {b o : Nat} {cs : List Value} {v : Value} {C : Prop} [hp : Pl P t] [hr : RowAt L b e cs] [hg : ElV cs o v C] : Re P c L (.load t (.pointer (some ⟨b, o, none⟩))) (fun k => Vc C (k v)) :=
  ⟨fun E d op ty pos af g hs k hk => by cases hs with | load e1 => exact ⟨_, D.ldR e1 hp.h hr.h (hg.h hk.l), hk.r⟩⟩
class PutV (L : List Assn) (b o : Nat) (v : Value) (L' : outParam (List Assn)) (C : outParam Prop) : Prop where h : C → ∃ e cs, Put (row e b cs) L (row e b (cs.set o v)) L' ∧ o < cs.length
instance (priority := 1100) {L : List Assn} {b o : Nat} {v : Value} {e : TypeId} {cs cs' : List Value} {C : Prop} [h : SetV cs o v cs' C] : PutV (row e b cs :: L) b o v (row e b cs' :: L) C := ⟨fun hc => ⟨e, cs, by rw [(h.h hc).1]; exact .head _ _ _, (h.h hc).2⟩⟩
instance {A : Assn} {L L' : List Assn} {b o : Nat} {v : Value} {C : Prop} [h : PutV L b o v L' C] : PutV (A :: L) b o v (A :: L') C := ⟨fun hc => let ⟨e, cs, h1, h2⟩ := h.h hc; ⟨e, cs, .tail h1, h2⟩⟩
instance (priority := 1100) {t : TypeId} {b o : Nat} {v : Value} {L' : List Assn} {C : Prop} [hz : Sz P t 0] [h1 : One v] [hp : PutV L b o v L' C] : St P c L (.store t (.pointer (some ⟨b, o, none⟩)) v) (fun k => Vc C (k undef L')) :=
  ⟨fun r E d op ty pos af g hs k hk => by
    cases hs with | store e1 e2 =>
    obtain ⟨e, cs, h3, h4⟩ := hp.h hk.l
    exact (N.st e1 e2 hz.h h3 h4 h1.h).imp fun _ _ hq => by rw [hq.1, hq.2]; exact hk.r⟩
/-- .. with a number that need not be known -/
class MulA (i n : Nat) (q : outParam Nat) : Prop where h : i * n = q
instance (priority := 1100) {i n q : Nat} [h : MulN i n q] : MulA i n q := ⟨h.h⟩
instance (priority := 100) {i n : Nat} : MulA i n (i * n) := ⟨rfl⟩
/-! ### arrays -/
instance {t e : TypeId} {cs : List Value} {k : IntKind} {x : Int} {i len : Nat} {v : Value} {C : Prop} [ht : Und P t (.array len e)] [hp : Pl P e] [hz : Sz P e 0] [hg : ElV cs i v C] [hx : Nn x i] : Pu P (.index t (.agg cs.toArray) (.int k x)) (fun q => Vc (i < len ∧ C) (q v)) :=
  ⟨fun E d op ty pos af g hs q hq => by
    cases hs with | index e1 e2 =>
    rw [hx.h] at e2
    exact ⟨_, DP.ixa1 e1 e2 ht.h hp.h hz.h hq.l.1 (by have := hg.h hq.l.2; simpa using this), hq.r⟩⟩
class SubL (cs : List Value) (o n : Nat) (us : outParam (List Value)) : Prop where h : (cs.take (o + n)).drop o = us ∧ (n = 0 ∨ o + n ≤ cs.length)
instance {cs : List Value} {o : Nat} : SubL cs o 0 [] := ⟨by simp, .inl rfl⟩
instance {cs us : List Value} {o n : Nat} {v : Value} [h1 : GL cs o v] [h2 : SubL cs (o + 1) n us] : SubL cs o (n + 1) (v :: us) := ⟨by
  have ho := getS_lt h1.h
  have h3 := h1.h
  obtain ⟨h4, h5⟩ := h2.h
  have hle : o + (n + 1) ≤ cs.length := by rcases h5 with rfl | h5 <;> omega
  refine ⟨?_, .inr hle⟩
  rw [← h4, show o + 1 + n = o + (n + 1) by omega]
  have hl : o < (cs.take (o + (n + 1))).length := by rw [List.length_take]; omega
  rw [List.drop_eq_getElem_cons hl]
  congr 1
  rw [List.getElem_take]
  rw [List.getElem?_eq_getElem ho] at h3
  exact Option.some.inj h3⟩
instance (priority := 900) {t e : TypeId} {cs us : List Value} {k : IntKind} {x : Int} {i len n o : Nat} [ht : Und P t (.array len e)] [hp : Ag P e] [hz : Sz P e n] [hm : MulN i (n + 1) o] [hg : SubL cs o (n + 1) us] [hx : Nn x i] : Pu P (.index t (.agg cs.toArray) (.int k x)) (fun q => Vc (i < len) (q (.agg us.toArray))) :=
  ⟨fun E d op ty pos af g hs q hq => by
    cases hs with | index e1 e2 =>
    rw [hx.h] at e2
    have h1 := DP.ixaA (d := d) (ty := ty) (pos := pos) (af := af) (g := g) e1 e2 ht.h hp.h hz.h hq.l
    rw [hm.h] at h1
    refine ⟨_, DP.to h1 ?_, hq.r⟩
    rw [← hg.h.1]
    simp [List.drop_take]⟩
instance (priority := 1100) {t e : TypeId} {b o q : Nat} {k : IntKind} {x : Int} {i len : Nat} [ht : Und P t (.array len e)] [hz : Sz P e 0] [ha : Ad o i q] [hx : Nn x i] : Pu P (.indexAddr t (.pointer (some ⟨b, o, none⟩)) (.int k x)) (fun z => Vc (i < len) (z (.pointer (some ⟨b, q, none⟩)))) :=
  ⟨fun E d op ty pos af g hs z hq => by
    cases hs with | indexAddr e1 e2 =>
    rw [hx.h] at e2
    have h1 := DP.iaa (d := d) (ty := ty) (pos := pos) (af := af) (g := g) e1 e2 ht.h hz.h hq.l
    rw [Nat.zero_add, Nat.mul_one, ha.h] at h1
    exact ⟨_, h1, hq.r⟩⟩
instance {t e : TypeId} {b o q n m : Nat} {k : IntKind} {x : Int} {i len : Nat} [ht : Und P t (.array len e)] [hz : Sz P e n] [hm : MulA i (n + 1) m] [ha : Ad o m q] [hx : Nn x i] : Pu P (.indexAddr t (.pointer (some ⟨b, o, none⟩)) (.int k x)) (fun z => Vc (i < len) (z (.pointer (some ⟨b, q, none⟩)))) :=
  ⟨fun E d op ty pos af g hs z hq => by
    cases hs with | indexAddr e1 e2 =>
    rw [hx.h] at e2
    have h1 := DP.iaa (d := d) (ty := ty) (pos := pos) (af := af) (g := g) e1 e2 ht.h hz.h hq.l
    rw [hm.h, ha.h] at h1
    exact ⟨_, h1, hq.r⟩⟩
instance (priority := 1100) {t ft : TypeId} {b o k fo n q : Nat} {fs : List Field} {nm tg pk : String} {em : Bool} {bo : Nat} [ht : Und P t (.struct fs.toArray)] [hf : GL fs k ⟨nm, ft, fo, em, tg, pk, bo⟩] [hz : Sz P ft n] [ha : Ad o fo q] : Pu P (.fieldAddr t (.pointer (some ⟨b, o, none⟩)) k) (fun z => z (.pointer (some ⟨b, q, none⟩))) :=
  ⟨fun E d op ty pos af g hr z hk => by cases hr with | fieldAddr e1 => have h1 := DP.fa (d := d) (ty := ty) (pos := pos) (af := af) (g := g) fo e1 ht.h (by have := hf.h; simpa using this) rfl hz.h; rw [ha.h] at h1; exact ⟨_, h1, hk⟩⟩
instance {t ft : TypeId} {k fo n : Nat} {cs us : List Value} {fs : List Field} {nm tg pk : String} {em : Bool} {bo : Nat} [ht : Und P t (.struct fs.toArray)] [hf : GL fs k ⟨nm, ft, fo, em, tg, pk, bo⟩] [hp : Ag P ft] [hz : Sz P ft n] [hg : SubL cs fo (n + 1) us] : Pu P (.field t (.agg cs.toArray) k) (fun z => z (.agg us.toArray)) :=
  ⟨fun E d op ty pos af g hr z hk => by
    cases hr with | field e1 =>
    have h1 := DP.fdA (d := d) (ty := ty) (pos := pos) (af := af) (g := g) fo e1 ht.h (by have := hf.h; simpa using this) rfl hp.h hz.h
    refine ⟨_, DP.to h1 ?_, hk⟩
    rw [← hg.h.1]
    simp [List.drop_take]⟩
theorem DP.bandn {E : Env} {d : Option Tmp} {ty : TypeId} {pos : String} {af : Array Edge} {g : Option (Nat × Bool)} {k : IntKind} {x y : Operand} {a b : Nat} {t t' : TypeId} {l : Nat} (hx : E.eval x = .int k a) (hy : E.eval y = .int k b) (hl : k.lim = l) (ha : a < l) (hb : b < l) : DP P E ⟨d, .binOp .andNot t x y t', ty, pos, af, g⟩ (.int k ((a ^^^ (a &&& b) : Nat) : Int)) := by
  unfold DP
  refine ⟨fun _ => by simp, fun w => ?_⟩
  subst hl
  have hA : a < 2 ^ k.bits := Nat.lt_of_lt_of_le ha (lim_le k)
  have hB : b < 2 ^ k.bits := Nat.lt_of_lt_of_le hb (lim_le k)
  have e0 : (BitVec.ofNat k.bits a &&& ~~~ BitVec.ofNat k.bits b) = (BitVec.ofNat k.bits a ^^^ (BitVec.ofNat k.bits a &&& BitVec.ofNat k.bits b)) := by
    apply BitVec.eq_of_getLsbD_eq
    intro i hi
    simp only [BitVec.getLsbD_and, BitVec.getLsbD_not, BitVec.getLsbD_xor, hi, decide_true, Bool.true_and]
    cases (BitVec.ofNat k.bits a).getLsbD i <;> cases (BitVec.ofNat k.bits b).getLsbD i <;> rfl
  have e : k.wrap (((BitVec.ofInt k.bits (a : Int) &&& ~~~ BitVec.ofInt k.bits (b : Int)).toNat : Nat) : Int) = ((a ^^^ (a &&& b) : Nat) : Int) := by
    rw [ofInt_nat, ofInt_nat, e0, BitVec.toNat_xor, BitVec.toNat_and, BitVec.toNat_ofNat, BitVec.toNat_ofNat, Nat.mod_eq_of_lt hA, Nat.mod_eq_of_lt hB]
    exact wrap_nat (bits_lim k (fun a b => a ^^^ (a &&& b)) ha hb fun n h h' => Nat.xor_lt_two_pow h (Nat.and_lt_two_pow _ h'))
  simp only [execOp, hx, hy, eqGuard_andNot, binOp_andNot, Op.intBits, e]; simp
/-- an element of a slice whose place is known -/
instance (priority := 800) {t e : TypeId} {b o q len cap : Nat} {k : IntKind} {x : Int} {i : Nat} [ht : Und P t (.slice e)] [hz : Sz P e 0] [ha : Ad o i q] [hx : Nn x i] : Pu P (.indexAddr t (.slice (some ⟨b, o, none⟩) len cap) (.int k x)) (fun z => Vc (i < len) (z (.pointer (some ⟨b, q, none⟩)))) :=
  ⟨fun E d op ty pos af g hs z hq => by
    cases hs with | indexAddr e1 e2 =>
    rw [hx.h] at e2
    have h1 := DP.ias (d := d) (ty := ty) (pos := pos) (af := af) (g := g) e1 e2 ht.h hz.h hq.l
    rw [Nat.zero_add, Nat.mul_one, ha.h] at h1
    exact ⟨_, h1, hq.r⟩⟩
instance (priority := 700) {t e : TypeId} {b o q len cap n m : Nat} {k : IntKind} {x : Int} {i : Nat} [ht : Und P t (.slice e)] [hz : Sz P e n] [hm : MulA i (n + 1) m] [ha : Ad o m q] [hx : Nn x i] : Pu P (.indexAddr t (.slice (some ⟨b, o, none⟩) len cap) (.int k x)) (fun z => Vc (i < len) (z (.pointer (some ⟨b, q, none⟩)))) :=
  ⟨fun E d op ty pos af g hs z hq => by
    cases hs with | indexAddr e1 e2 =>
    rw [hx.h] at e2
    have h1 := DP.ias (d := d) (ty := ty) (pos := pos) (af := af) (g := g) e1 e2 ht.h hz.h hq.l
    rw [hm.h, ha.h] at h1
    exact ⟨_, h1, hq.r⟩⟩
/-- build of an array -/
instance {t e : TypeId} {vs : List (Nat × Value)} {len n : Nat} {z : Value} {zs us : List Value} [ht : Und P t (.array len e)] [hs : Sz P e n] [hz : Zr P t z] [hc : Cel z zs] [hf : FilA (n + 1) zs vs us] : Pu P (.build t vs) (fun k => k (.agg us.toArray)) :=
  ⟨fun E d op ty pos af g hr k hk => by cases hr with | build e => exact ⟨_, DP.baL e ht.h hs.h hz.h (by rw [hc.h]; exact hf.h), hk⟩⟩
/-- andNot -/
instance {k : IntKind} {x y : Int} {a b : Nat} {t : TypeId} {l : Nat} [hl : Lim k l] [h1 : Nn x a] [h2 : Nn y b] : Pu P (.bin .andNot t (.int k x) (.int k y)) (fun q => Vc (a < l ∧ b < l) (q (.int k ((a ^^^ (a &&& b) : Nat) : Int)))) :=
  ⟨fun E d op ty pos af g hr q hk => by
    cases hr with | bin e1 e2 =>
    rw [h1.h] at e1; rw [h2.h] at e2
    exact ⟨_, DP.bandn e1 e2 hl.h hk.l.1 hk.l.2, hk.r⟩⟩
end
end Pw
