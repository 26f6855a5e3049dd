/- Lemmas for the proofs of this seat: no statement of the seat is claimed here. -/
import Derived.Test.YtcidilijlgaohaaDoorPx2
set_option linter.all false
namespace Pw
open Go
/-- One or the other, by what an option is. -/
def Opt {α : Type} (o : Option α) (a : Prop) (b : α → Prop) : Prop := (o = none ∧ a) ∨ ∃ x, o = some x ∧ b x
theorem Opt.n {α : Type} {o : Option α} {a : Prop} {b : α → Prop} (h : o = none) (k : a) : Opt o a b := .inl ⟨h, k⟩
theorem Opt.s {α : Type} {o : Option α} {a : Prop} {b : α → Prop} {x : α} (h : o = some x) (k : b x) : Opt o a b := .inr ⟨x, h, k⟩
/-- A pointer to the j-th cell behind a. -/
def eA (a : Option Addr) (j : Nat) : Option Addr := a.map fun x => ⟨x.block, x.off + j, none⟩
def gt {α : Type} [Inhabited α] (l : List α) (i : Nat) : α := l.getD i default
theorem gt_get {α : Type} [Inhabited α] {l : List α} {i : Nat} (h : i < l.length) : l[i]? = some (gt l i) := by simp [gt, h]
theorem gt_mem {α : Type} [Inhabited α] {l : List α} {i : Nat} (h : i < l.length) : gt l i ∈ l := List.mem_of_getElem? (gt_get h)
class FLen {α : Type} (f : α → List Value) (k : Nat) : Prop where h : ∀ x, (f x).length = k
class FOne {α : Type} (f : α → List Value) : Prop where h : ∀ x, ∀ u ∈ f x, u.oneCell' = true
/-- The j-th cell. -/
class ElV (xs : List Value) (j : Nat) (v : outParam Value) (C : outParam Prop) : Prop where h : C → xs[j]? = some v
instance {α : Type} [Inhabited α] {l : List α} {f : α → Value} {j : Nat} : ElV (l.map f) j (f (gt l j)) (j < l.length) := ⟨fun h => by rw [List.getElem?_map, gt_get h]; rfl⟩
instance {α : Type} [Inhabited α] {l : List α} {f : α → List Value} {i sz o : Nat} {v : Value} [hf : FLen f sz] [hg : GL (f (gt l i)) o v] : ElV (l.flatMap f) (i * sz + o) v (i < l.length) := ⟨fun h => flat_elem hf.h (gt_get h) o v hg.h⟩
instance (priority := 500) {xs : List Value} {j : Nat} {v : Value} [h : GL xs j v] : ElV xs j v True := ⟨fun _ => h.h⟩
/-- The slice whose array begins at a. -/
class ElAt (L : List Assn) (a : Option Addr) (e : outParam TypeId) (sz n k : outParam Nat) (xs : outParam (List Value)) (R : outParam (List Assn)) : Prop where h : Del (sl e sz (.slice a n k) n xs) L R
instance (priority := 1100) {L : List Assn} {a : Option Addr} {e : TypeId} {sz n k : Nat} {xs : List Value} : ElAt (sl e sz (.slice a n k) n xs :: L) a e sz n k xs L := ⟨.head _ _⟩
instance {A : Assn} {L R : List Assn} {a : Option Addr} {e : TypeId} {sz n k : Nat} {xs : List Value} [h : ElAt L a e sz n k xs R] : ElAt (A :: L) a e sz n k xs (A :: R) := ⟨.tail h.h⟩
/-- .. of the inputs -/
class InAt (L : List Assn) (a : Option Addr) (sz n k : outParam Nat) (xs : outParam (List Value)) : Prop where h : ∃ h, LMem (old h) L ∧ Inp h sz n (.slice a n k) xs

section
variable {P : Program} {r : Rd} {c : Ctx} {L : List Assn}
theorem N.imp2 {E : Env} {o : Oper} {Φ Ψ : Value → List Assn → Prop} (h : N P r c L E o Φ) (e : ∀ v L' w, Φ v L' → SL c L' w → Ψ v L') : N P r c L E o Ψ := by
  unfold N at *
  exact fun w hw K Q hK => h w hw K Q fun v L' w' hΦ hw' => hK v L' w' (e v L' w' hΦ hw') hw'
theorem SL.sl_form {w : World} {e : TypeId} {sz n : Nat} {v : Value} {xs : List Value} {R : List Assn} (h : SL c (sl e sz v n xs :: R) w) : ∃ a k, v = .slice a n k := by
  obtain ⟨f1, hs, _⟩ := SLh.mem (.head _ _) h.2.2.2
  rcases hs with ⟨rfl, rfl, _⟩ | ⟨b, k, _, rfl, _⟩
  · exact ⟨none, 0, rfl⟩
  · exact ⟨_, _, rfl⟩

/-! ### new blocks -/
instance {t : TypeId} {cs : List Value} : St P c L (.box t (.agg cs.toArray)) (fun k => ∀ b, k (.pointer (some ⟨b, 0, none⟩)) (row t b cs :: L)) :=
  ⟨fun r E d op ty pos af g hr k hk => by cases hr with | box e => exact (N.bxA e).imp fun v L' ⟨b, h1, h2⟩ => by subst h1; subst h2; exact hk b⟩
instance (priority := 500) {t : TypeId} {v : Value} [h : One v] : St P c L (.box t v) (fun k => ∀ b, k (.pointer (some ⟨b, 0, none⟩)) (row t b [v] :: L)) :=
  ⟨fun r E d op ty pos af g hr k hk => by cases hr with | box e => exact (N.bx1 e h.h).imp fun v L' ⟨b, h1, h2⟩ => by subst h1; subst h2; exact hk b⟩
instance {t : TypeId} {cs : List Value} [hz : Zr P t (.agg cs.toArray)] : St P c L (.alloc t) (fun k => ∀ b, k (.pointer (some ⟨b, 0, none⟩)) (row t b cs :: L)) :=
  ⟨fun r E d op ty pos af g hr k hk => by cases hr with | alloc => exact (N.alA hz.h).imp fun v L' ⟨b, h1, h2⟩ => by subst h1; subst h2; exact hk b⟩
instance (priority := 500) {t : TypeId} {z : Value} [hz : Zr P t z] [h : One z] : St P c L (.alloc t) (fun k => ∀ b, k (.pointer (some ⟨b, 0, none⟩)) (row t b [z] :: L)) :=
  ⟨fun r E d op ty pos af g hr k hk => by cases hr with | alloc => exact (N.al1 hz.h h.h).imp fun v L' ⟨b, h1, h2⟩ => by subst h1; subst h2; exact hk b⟩

/-! ### loads and stores -/
instance {t e : TypeId} {b o : Nat} {cs : List Value} {v : Value} [hp : Pl P t] [hr : RowAt L b e cs] [hg : GL cs o v] : Re P c L (.load t (.pointer (some ⟨b, o, none⟩))) (fun k => k v) :=
  ⟨fun E d op ty pos af g hs k hk => by cases hs with | load e1 => exact ⟨_, D.ldR e1 hp.h hr.h hg.h, hk⟩⟩
instance {t e : TypeId} {b n : Nat} {cs : List Value} [hp : Ag P t] [hz : Sz P t n] [hr : RowAt L b e cs] [hl : Len cs (n + 1)] : Re P c L (.load t (.pointer (some ⟨b, 0, none⟩))) (fun k => k (.agg cs.toArray)) :=
  ⟨fun E d op ty pos af g hs k hk => by cases hs with | load e1 => exact ⟨_, D.ldRA e1 hp.h hz.h hr.h hl.h, hk⟩⟩
instance {t : TypeId} {b o : Nat} {v : Value} {L' : List Assn} [hz : Sz P t 0] [h1 : One v] [hp : PutRow L b o v L'] : St P c L (.store t (.pointer (some ⟨b, o, none⟩)) v) (fun k => k undef L') :=
  ⟨fun r E d op ty pos af g hs k hk => by
    cases hs with | store e1 e2 =>
    obtain ⟨e, cs, h3, h4⟩ := hp.h
    exact (N.st e1 e2 hz.h h3 h4 h1.h).imp fun _ _ hq => by rw [hq.1, hq.2]; exact hk⟩
class PutRowA (L : List Assn) (b : Nat) (vs : List Value) (L' : outParam (List Assn)) : Prop where h : ∃ e cs, Put (row e b cs) L (row e b vs) L' ∧ cs.length = vs.length
instance (priority := 1100) {L : List Assn} {b n : Nat} {vs cs : List Value} {e : TypeId} [h1 : Len cs n] [h2 : Len vs n] : PutRowA (row e b cs :: L) b vs (row e b vs :: L) := ⟨e, cs, .head _ _ _, by rw [h1.h, h2.h]⟩
instance {A : Assn} {L L' : List Assn} {b : Nat} {vs : List Value} [h : PutRowA L b vs L'] : PutRowA (A :: L) b vs (A :: L') := ⟨let ⟨e, cs, h1, h2⟩ := h.h; ⟨e, cs, .tail h1, h2⟩⟩
instance {t : TypeId} {b n : Nat} {vs : List Value} {L' : List Assn} [hz : Sz P t n] [hl : Len vs (n + 1)] [h1 : Ones vs] [hp : PutRowA L b vs L'] : St P c L (.store t (.pointer (some ⟨b, 0, none⟩)) (.agg vs.toArray)) (fun k => k undef L') :=
  ⟨fun r E d op ty pos af g hs k hk => by
    cases hs with | store e1 e2 =>
    obtain ⟨e, cs, h3, h4⟩ := hp.h
    have e0 : setAll cs 0 vs = vs := by rw [setAll_eq _ _ _ (by omega)]; simp [h4]
    exact (N.stA (cs := cs) e1 e2 hz.h (by rw [e0]; exact h3) (by omega) h1.h hl.h).imp fun _ _ hq => by rw [hq.1, hq.2]; exact hk⟩

/-! ### structs made of parts -/
class Cel (v : Value) (us : outParam (List Value)) : Prop where h : cellsL v = us
instance {cs : List Value} : Cel (.agg cs.toArray) cs := ⟨by simp [cellsL]⟩
instance (priority := 500) {v : Value} [h : One v] : Cel v [v] := ⟨by have := h.h; cases v <;> first | rfl | (simp [Value.oneCell'] at this)⟩
class SLm (zs : List Value) (o : Nat) (vs : List Value) (us : outParam (List Value)) : Prop where h : setAll zs o vs = us ∧ o + vs.length ≤ zs.length
class SLm1 (zs : List Value) (o : Nat) (vs : List Value) (us : outParam (List Value)) : Prop where h : setAll zs o vs = us ∧ (vs = [] ∨ o + vs.length ≤ zs.length)
instance {zs : List Value} {o : Nat} : SLm1 zs o [] zs := ⟨rfl, .inl rfl⟩
instance {zs z1 us vs : List Value} {o : Nat} {v : Value} [h1 : SLs zs o v z1] [h2 : SLm1 z1 (o + 1) vs us] : SLm1 zs o (v :: vs) us := ⟨by
  obtain ⟨a, b⟩ := h1.h
  obtain ⟨d, e⟩ := h2.h
  subst a
  refine ⟨d, .inr ?_⟩
  rcases e with rfl | e
  · simp; omega
  · simp at e ⊢; omega⟩
class Fil (pl : List (Nat × Nat)) (zs : List Value) (vs : List (Nat × Value)) (us : outParam (List Value)) : Prop where h : fillL (fun i => pl[i]?) zs vs = some us
instance {pl : List (Nat × Nat)} {zs : List Value} : Fil pl zs [] zs := ⟨rfl⟩
instance {pl : List (Nat × Nat)} {zs z1 us cs : List Value} {i o n : Nat} {v zz : Value} {t : List (Nat × Value)} [h1 : GL pl i (o, n)] [h2 : Cel v cs] [h3 : Len cs n] [h4 : SLm1 zs o cs z1] [h5 : Fil pl z1 t us] [h6 : GL zs o zz] : Fil pl zs ((i, v) :: t) us := ⟨by
  obtain ⟨a, b⟩ := h4.h
  have hn := h3.h
  have ho : o < zs.length := by
    have := h6.h
    rcases Nat.lt_or_ge o zs.length with h | h
    · exact h
    · rw [List.getElem?_eq_none h] at this; cases this
  have hb : (Nat.beq (cellsL v).length n && Nat.ble (o + n) zs.length) = true := by
    rw [h2.h, hn]
    simp only [Bool.and_eq_true]
    refine ⟨Nat.beq_refl n, Nat.ble_eq_true_of_le ?_⟩
    rcases b with rfl | b
    · simp at hn; omega
    · omega
  simp only [fillL, h1.h]
  rw [hb, h2.h, a]
  exact h5.h⟩
instance {t : TypeId} {vs : List (Nat × Value)} {pl : List (Nat × Nat)} {z : Value} {zs us : List Value} [hp : Pc P t pl] [hz : Zr P t z] [hc : Cel z zs] [hf : Fil pl zs vs us] : Pu P (.build t vs) (fun k => k (.agg us.toArray)) :=
  ⟨fun E d op ty pos af g hs k hk => by cases hs with | build e => exact ⟨_, DP.bdL e hp.h hz.h (by rw [hc.h]; exact hf.h), hk⟩⟩
class MulN (i n : Nat) (q : outParam Nat) : Prop where h : i * n = q
instance (priority := 1100) {i : Nat} : MulN i 1 i := ⟨Nat.mul_one i⟩
instance {n : Nat} : MulN 0 n 0 := ⟨Nat.zero_mul n⟩
instance {i n p : Nat} [h : MulN i n p] : MulN (i + 1) n (p + n) := ⟨by rw [Nat.succ_mul, h.h]⟩
class FilA (sz : Nat) (zs : List Value) (vs : List (Nat × Value)) (us : outParam (List Value)) : Prop where h : fillL (fun i => some (i * sz, sz)) zs vs = some us
instance {sz : Nat} {zs : List Value} : FilA sz zs [] zs := ⟨rfl⟩
instance {zs z1 us cs : List Value} {i sz o : Nat} {v zz : Value} {t : List (Nat × Value)} [hm : MulN i sz o] [h2 : Cel v cs] [h3 : Len cs sz] [h4 : SLm1 zs o cs z1] [h6 : GL zs o zz] [h5 : FilA sz z1 t us] : FilA sz zs ((i, v) :: t) us := ⟨by
  obtain ⟨a, b⟩ := h4.h
  have hn := h3.h
  have ho : o < zs.length := by
    have := h6.h
    rcases Nat.lt_or_ge o zs.length with h | h
    · exact h
    · rw [List.getElem?_eq_none h] at this; cases this
  have hb : (Nat.beq (cellsL v).length sz && Nat.ble (i * sz + sz) zs.length) = true := by
    rw [h2.h, hn, hm.h]
    simp only [Bool.and_eq_true]
    refine ⟨Nat.beq_refl _, Nat.ble_eq_true_of_le ?_⟩
    rcases b with rfl | b
    · simp at hn; omega
    · omega
  simp only [fillL]
  rw [hb, h2.h, hm.h, a]
  exact h5.h⟩
/-! ### slices made of parts: of one element -/
theorem Ent.slP' {b n sz : Nat} {e : TypeId} {cs : List Value} {R : List Assn} (h : cs.length = n * sz) : Ent c (pt b (.cells cs.toArray e (0, 0)) :: R) (Pw.sl e sz (.slice (some ⟨b, 0, none⟩) n n) n cs :: R) := Ent.slP h
theorem N.ent {E : Env} {o : Oper} {Φ Ψ : Value → List Assn → Prop} (h : N P r c L E o Φ) (e : ∀ v L', Φ v L' → ∃ L'', Ent c L' L'' ∧ Ψ v L'') : N P r c L E o Ψ := by
  unfold N at *
  intro w hw K Q hK
  refine h w hw K Q fun v L' w' hΦ hw' => ?_
  obtain ⟨L'', h1, h2⟩ := e v L' hΦ
  exact hK v L'' w' h2 (h1 w' hw')
instance {t e : TypeId} {v : Value} {sz : Nat} {z : Value} {cs zs : List Value} [ht : Und P t (.slice e)] [hz : Sz P e sz] [hr : Zr P e z] [hcz : Cel z zs] [hc : Cel v cs] [hl : Len cs (sz + 1)] [hlz : Len zs (sz + 1)] : St P c L (.buildSlice t 1 [(0, v)]) (fun k => Vc (sz + 1 ≤ 16777216) (∀ b, k (.slice (some ⟨b, 0, none⟩) 1 1) (sl e (sz + 1) (.slice (some ⟨b, 0, none⟩) 1 1) 1 cs :: L))) :=
  ⟨fun r E d op ty pos af g hs k hk => by
    cases hs with | buildSlice e1 =>
    obtain ⟨hlim, hk⟩ := hk
    · have hfil : fillL (fun i => some (i * (sz + 1), sz + 1)) (List.replicate 1 (cellsL z)).flatten [(0, v)] = some cs := by
        have h1 : (cellsL z).length = sz + 1 := by rw [hcz.h]; exact hlz.h
        have h2 : (cellsL v).length = sz + 1 := by rw [hc.h]; exact hl.h
        have hb : (Nat.beq (cellsL v).length (sz + 1) && Nat.ble (0 * (sz + 1) + (sz + 1)) (List.replicate 1 (cellsL z)).flatten.length) = true := by
          rw [h2]
          simp only [Bool.and_eq_true]
          exact ⟨Nat.beq_refl _, Nat.ble_eq_true_of_le (by simp [h1])⟩
        simp only [fillL]
        rw [hb, hc.h]
        simp only [cond_true]
        rw [setAll_eq _ _ _ (by simp [h1, hl.h])]
        simp [h1, hl.h]
      exact N.ent (N.bsL e1 ht.h hz.h hr.h (by rw [hcz.h]; exact hlz.h) (by omega) hfil) fun v L' ⟨b, h1, h2⟩ => by
        subst h1; subst h2
        exact ⟨_, Ent.slP (by rw [hl.h]; omega), hk b⟩⟩
end
end Pw
