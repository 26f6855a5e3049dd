/- Lemmas for the proofs of this seat: no statement of the seat is claimed here. -/
import Derived.Test.YtcidilijlgaohaaDoorPx4
set_option linter.all false
namespace Pw
open Go MapKept
theorem eraseIdx_map' {α β : Type} (f : α → β) (l : List α) (i : Nat) : (l.map f).eraseIdx i = (l.eraseIdx i).map f := by
  apply List.ext_getElem?
  intro j
  simp only [List.getElem?_eraseIdx, List.getElem?_map]
  split <;> rfl
/-! ## Maps by numbers -/
section
variable {P : Program} {r : Rd} {c : Ctx} {L : List Assn} {E : Env} {d : Option Tmp} {ty : TypeId} {pos : String} {af : Array Edge} {g : Option (Nat × Bool)}
theorem SL.mapI_open {k : IntKind} {b : Nat} {l : List (Nat × Value)} {w : World} {R : List Assn} (h : SL c (mapI k b l :: R) w) : ∃ es clock, kvI k es.toList l ∧ SL c (pt b (.map es clock) :: R) w := by
  obtain ⟨e1, e2, e3, f1, f2, hd, k1, k2, ⟨es, clock, h1, h2⟩, hl⟩ := h
  exact ⟨es, clock, h2, e1, e2, e3, f1, f2, hd, k1, k2, h1, hl⟩
theorem SL.mapI_shut {k : IntKind} {b : Nat} {l : List (Nat × Value)} {es : Array MapEntry} {clock : Nat} {w : World} {R : List Assn} (hk : kvI k es.toList l) (h : SL c (pt b (.map es clock) :: R) w) : SL c (mapI k b l :: R) w := by
  obtain ⟨e1, e2, e3, f1, f2, hd, k1, k2, ha, hl⟩ := h
  exact ⟨e1, e2, e3, f1, f2, hd, k1, k2, ⟨es, clock, ha, hk⟩, hl⟩
theorem N.mmk {t : TypeId} (k : IntKind) : N P r c L E ⟨d, .makeMap t none, ty, pos, af, g⟩ (fun v L' => ∃ b, v = .map (some b) ∧ L' = mapI k b [] :: L) := by
  refine N.value (fun _ => by simp) fun w hw => ?_
  refine ⟨.map (some w.heap.size), _, w.alloc (.map #[] 0), ?_, ⟨w.heap.size, rfl, rfl⟩, SL.mapI_shut (es := #[]) (clock := 0) rfl (hw.alloc _)⟩
  simp [execOp, Instr.makeMap, Result.andThen]
theorem D.mln {x : Operand} {b : Nat} {k : IntKind} {l : List (Nat × Value)} {t kt et : TypeId} (hx : E.eval x = .map (some b)) (ht : P.underlying t = some (.map kt et)) (hm : LMem (mapI k b l) L) :
    D P c L E ⟨d, .call ⟨.builtin .len, #[x], #[t]⟩, ty, pos, af, g⟩ (.int .i64 (l.length : Nat)) :=
  D.mkW (fun _ => by simp) (fun w hw => by
    obtain ⟨es, clock, hb, hkv⟩ := hw.mapI_at hm
    have := hkv.len
    simp at this
    have h1 := MapKept.run_getObj_map (P := P) hb; simp [execOp, resolve, invoke, builtin, hx, Builtin.len_, run_underlying ht, goInt, h1, this])
theorem kvI.set {k : IntKind} {es : List MapEntry} {l : List (Nat × Value)} (h : kvI k es l) {n : Nat} {v : Value} {x : Nat × Value} (hp : posI l n = some x) : kvI k (es.modify x.1 fun e => { e with key := .int k n, val := v }) (l.set x.1 (n, v)) := by
  have hx := posI_lt hp
  unfold kvI at *
  apply List.ext_getElem?
  intro i
  have hi := congrArg (fun z => z[i]?) h
  simp only [List.getElem?_map, List.getElem?_modify, List.getElem?_set] at hi ⊢
  by_cases hxi : x.1 = i
  · subst hxi
    simp only [if_true]
    have hlt : x.1 < l.length := by
      rcases Nat.lt_or_ge x.1 l.length with h5 | h5
      · exact h5
      · rw [List.getElem?_eq_none h5] at hx; cases hx
    rw [hx] at hi
    cases he : es[x.1]? with
    | none => rw [he] at hi; cases hi
    | some e => simp [hlt]
  · simp only [hxi, if_false, id] at hi ⊢
    cases he : es[i]? <;> simp [he] at hi ⊢ <;> exact hi
theorem kvI.push {k : IntKind} {es : List MapEntry} {l : List (Nat × Value)} (h : kvI k es l) {n : Nat} {v : Value} {cl : Nat} : kvI k (es ++ [{ key := .int k n, val := v, born := cl }]) (l ++ [(n, v)]) := by
  unfold kvI at *
  simp [h]
theorem kvI.erase {k : IntKind} {es : List MapEntry} {l : List (Nat × Value)} (h : kvI k es l) (i : Nat) : kvI k (es.eraseIdx i) (l.eraseIdx i) := by
  unfold kvI at *
  rw [← eraseIdx_map', ← eraseIdx_map', h]
theorem eraseIf (es : Array MapEntry) (i : Nat) : (es.eraseIdxIfInBounds i).toList = es.toList.eraseIdx i := by
  unfold Array.eraseIdxIfInBounds
  split
  · simp
  · rw [List.eraseIdx_of_length_le (by simp; omega)]
theorem N.mup {x y z : Operand} {b n : Nat} {k : IntKind} {l : List (Nat × Value)} {v : Value} {t kt et : TypeId} {R : List Assn} (hx : E.eval x = .map (some b)) (hy : E.eval y = .int k n) (hz : E.eval z = v) (ht : P.underlying t = some (.map kt et)) (hk : P.underlying kt = some (.int k)) (hm : Del (mapI k b l) L R) :
    N P r c L E ⟨d, .mapUpdate t x y z, ty, pos, af, g⟩ (fun u L' => u = undef ∧ L' = mapI k b (putI l n v) :: R) := by
  refine N.skip (fun _ => by simp) fun w hw => ?_
  obtain ⟨es, clock, hkv, hw1⟩ := (hw.perm hm.perm).mapI_open
  have hb := hw1.heap (.head _ _)
  have hf := run_findKey (P := P) (w := w) hk (findNow_int (k0 := k) n 0 hkv)
  have hc := run_checkKey (P := P) (w := w) (k := .int k n) hk (by simp [IsKey]) false 9999
  unfold putI
  cases hp : posI l n with
  | none =>
    refine ⟨{ w with heap := w.heap.setIfInBounds b (.map (es.push { key := .int k n, val := v, born := clock }) (clock + 1)) }, ?_, SL.mapI_shut (es := es.push { key := .int k n, val := v, born := clock }) (clock := clock + 1) (by simpa using hkv.push (n := n) (v := v) (cl := clock)) (hw1.setObj rfl rfl rfl (heap_set hb).1 (heap_set hb).2)⟩
    rw [hp] at hf
    simp only [execOp, hx, hy, hz, Instr.mapUpdate, Sem.run_bind, run_underlying ht, Result.andThen_ok, MapKept.run_getObj_map hb, Sem.run_pure, hc, hf, Option.map_none, run_setObj_map _ hb]
  | some q =>
    obtain ⟨e, he, hek, _⟩ := hkv.get (posI_lt hp)
    refine ⟨{ w with heap := w.heap.setIfInBounds b (.map (es.modify q.1 fun e => { e with key := .int k n, val := v }) clock) }, ?_, SL.mapI_shut (es := es.modify q.1 fun e => { e with key := .int k n, val := v }) (clock := clock) (by simpa using hkv.set (v := v) hp) (hw1.setObj rfl rfl rfl (heap_set hb).1 (heap_set hb).2)⟩
    rw [hp] at hf
    have he' : es[q.1]? = some e := by simpa using he
    have h1 : (Instr.keyThatStays (((es[q.1]?).map (·.key)).getD (.int k n)) (.int k n)).run P w = .ok (.int k n) w := by
      rw [he']; simp only [Option.map_some, Option.getD_some]; rw [hek]; exact run_keyThatStays (P := P) (w := w) (d := .int k) (by simp [IsKey])
    simp only [execOp, hx, hy, hz, Instr.mapUpdate, Sem.run_bind, run_underlying ht, Result.andThen_ok, MapKept.run_getObj_map hb, Sem.run_pure, hc, hf, Option.map_some, Nat.zero_add, h1, run_setObj_map _ hb]
theorem N.mdl {x y : Operand} {b n : Nat} {k : IntKind} {l : List (Nat × Value)} {t t2 kt et : TypeId} {R : List Assn} (hx : E.eval x = .map (some b)) (hy : E.eval y = .int k n) (ht : P.underlying t = some (.map kt et)) (hk : P.underlying kt = some (.int k)) (hm : Del (mapI k b l) L R) :
    N P r c L E ⟨d, .call ⟨.builtin .delete, #[x, y], #[t, t2]⟩, ty, pos, af, g⟩ (fun u L' => u = .tuple #[] ∧ L' = mapI k b (delI l n) :: R) := by
  refine N.value (fun _ => by simp) fun w hw => ?_
  obtain ⟨es, clock, hkv, hw1⟩ := (hw.perm hm.perm).mapI_open
  have hb := hw1.heap (.head _ _)
  have hf := run_findKey (P := P) (w := w) hk (findNow_int (k0 := k) n 0 hkv)
  have hc := run_checkKey (P := P) (w := w) (k := .int k n) hk (by simp [IsKey]) es.isEmpty 9999
  unfold delI
  cases hp : posI l n with
  | none =>
    refine ⟨_, _, { w with heap := w.heap.setIfInBounds b (.map es clock) }, ?_, ⟨rfl, rfl⟩, SL.mapI_shut hkv (hw1.setObj rfl rfl rfl (heap_set hb).1 (heap_set hb).2)⟩
    rw [hp] at hf
    simp [execOp, resolve, invoke, builtin, hx, hy, Builtin.delete_, run_underlying ht, MapKept.run_getObj_map hb, hc, hf, run_setObj_map _ hb]
  | some q =>
    refine ⟨_, _, { w with heap := w.heap.setIfInBounds b (.map (es.eraseIdxIfInBounds q.1) clock) }, ?_, ⟨rfl, rfl⟩, SL.mapI_shut (by rw [eraseIf]; exact hkv.erase q.1) (hw1.setObj rfl rfl rfl (heap_set hb).1 (heap_set hb).2)⟩
    rw [hp] at hf
    simp [execOp, resolve, invoke, builtin, hx, hy, Builtin.delete_, run_underlying ht, MapKept.run_getObj_map hb, hc, hf, run_setObj_map _ hb]
end

/-- Maps whose values are pointers. -/
abbrev pv (p : Nat) : Value := .pointer (some ⟨p, 0, none⟩)
def mapP (b : Nat) (x : IntKind × List (Nat × Nat)) : Assn := mapI x.1 b (x.2.map fun q => (q.1, pv q.2))
def atP (l : List (Nat × Nat)) (n : Nat) : Option Nat := (l.find? fun q => decide (q.1 = n)).map (·.2)
def putP (l : List (Nat × Nat)) (n v : Nat) : List (Nat × Nat) := match l.findIdx? (fun q => decide (q.1 = n)) with | some i => l.set i (n, v) | none => l ++ [(n, v)]
def delP (l : List (Nat × Nat)) (n : Nat) : List (Nat × Nat) := match l.findIdx? (fun q => decide (q.1 = n)) with | some i => l.eraseIdx i | none => l
theorem posI_mapP (n : Nat) (f : Nat → Value) : ∀ l : List (Nat × Nat), posI (l.map fun q => (q.1, f q.2)) n = (l.findIdx? fun q => decide (q.1 = n)).bind fun i => (l[i]?).map fun q => (i, f q.2)
  | [] => rfl
  | (a, p) :: l => by
    simp only [List.map_cons, posI, posI_mapP n f l, List.findIdx?_cons]
    by_cases h : a = n
    · simp [h]
    · simp only [h, decide_false, if_false]
      cases l.findIdx? fun q => decide (q.1 = n) with
      | none => simp
      | some i => simp; rfl
theorem atI_mapP (l : List (Nat × Nat)) (n : Nat) : atI (l.map fun q => (q.1, pv q.2)) n = (atP l n).map pv := by
  unfold atI atP
  rw [posI_mapP n pv]
  induction l with
  | nil => rfl
  | cons a l ih =>
    rw [List.findIdx?_cons, List.find?_cons]
    by_cases h : a.1 = n
    · simp [h]
    · simp only [h, decide_false, if_false]
      rw [← ih]
      cases l.findIdx? (fun q => decide (q.1 = n)) with
      | none => rfl
      | some i => simp; rfl
theorem putI_mapP (l : List (Nat × Nat)) (n p : Nat) : putI (l.map fun q => (q.1, pv q.2)) n (pv p) = (putP l n p).map fun q => (q.1, pv q.2) := by
  unfold putI putP
  rw [posI_mapP n pv]
  cases h : l.findIdx? fun q => decide (q.1 = n) with
  | none => simp
  | some i =>
    have hi := (List.findIdx?_eq_some_iff_getElem.1 h).1
    simp [hi, List.map_set]
theorem delI_mapP (l : List (Nat × Nat)) (n : Nat) : delI (l.map fun q => (q.1, pv q.2)) n = (delP l n).map fun q => (q.1, pv q.2) := by
  unfold delI delP
  rw [posI_mapP n pv]
  cases h : l.findIdx? fun q => decide (q.1 = n) with
  | none => simp
  | some i =>
    have hi := (List.findIdx?_eq_some_iff_getElem.1 h).1
    simp [hi, eraseIdx_map']
section
variable {P : Program} {r : Rd} {c : Ctx} {L R : List Assn} {t kt et : TypeId} {k : IntKind} {b : Nat} {l : List (Nat × Nat)} {x : Int} {n : Nat}
instance [ht : Und P t (.map kt et)] [hk : Und P kt (.int k)] : St P c L (.mkMap t) (fun q => ∀ b, q (.map (some b)) (mapP b (k, []) :: L)) :=
  ⟨fun r E d op ty pos af g hs q hq => by cases hs with | mkMap => exact (N.mmk k).imp fun v L' ⟨b, h1, h2⟩ => by rw [h1, h2]; exact hq b⟩
instance [ht : Und P t (.map kt et)] [hk : Und P kt (.int k)] [hz : Zr P et (.pointer none)] [hm : Fam mapP L b (k, l) R] [hn : Nn x n] : Re P c L (.lookup t (.map (some b)) (.int k x) false) (fun q => Opt (atP l n) (q (.pointer none)) (fun p => q (pv p))) :=
  ⟨fun E d op ty pos af g hs q hq => by
    cases hs with | lookup e1 e2 =>
    rw [hn.h] at e2
    refine ⟨_, D.mlk e1 e2 ht.h hk.h hz.h (Del.lmem hm.h), ?_⟩
    rw [atI_mapP]
    rcases hq with ⟨h1, h2⟩ | ⟨p, h1, h2⟩
    · rw [h1]; exact h2
    · rw [h1]; exact h2⟩
instance [ht : Und P t (.map kt et)] [hm : Fam mapP L b (k, l) R] : Re P c L (.builtin .len [.map (some b)] [t]) (fun q => q (.int .i64 (l.length : Nat))) :=
  ⟨fun E d op ty pos af g hs q hq => by
    cases hs with | builtin e =>
    rename_i xs
    match xs, e with
    | [x], ⟨e1, _⟩ => exact ⟨_, D.mln e1 ht.h (Del.lmem hm.h), by simpa using hq⟩⟩
instance {p : Nat} [ht : Und P t (.map kt et)] [hk : Und P kt (.int k)] [hm : Fam mapP L b (k, l) R] [hn : Nn x n] : St P c L (.update t (.map (some b)) (.int k x) (.pointer (some ⟨p, 0, none⟩))) (fun q => q undef (mapP b (k, putP l n p) :: R)) :=
  ⟨fun r E d op ty pos af g hs q hq => by
    cases hs with | update e1 e2 e3 =>
    rw [hn.h] at e2
    exact (N.mup e1 e2 e3 ht.h hk.h hm.h).imp fun v L' h => by
      have e4 : mapI k b (putI (l.map fun q => (q.1, pv q.2)) n (pv p)) = mapP b (k, putP l n p) := congrArg (mapI k b) (putI_mapP l n p)
      rw [h.1, h.2]
      dsimp only
      erw [e4]; exact hq⟩
instance {t2 : TypeId} [ht : Und P t (.map kt et)] [hk : Und P kt (.int k)] [hm : Fam mapP L b (k, l) R] [hn : Nn x n] : St P c L (.builtin .delete [.map (some b), .int k x] [t, t2]) (fun q => q (.tuple #[]) (mapP b (k, delP l n) :: R)) :=
  ⟨fun r E d op ty pos af g hs q hq => by
    cases hs with | builtin e =>
    rename_i xs
    match xs, e with
    | [x1, x2], ⟨e1, e2, _⟩ =>
      rw [hn.h] at e2
      exact (N.mdl e1 e2 ht.h hk.h hm.h).imp fun v L' h => by
        have e4 : mapI k b (delI (l.map fun q => (q.1, pv q.2)) n) = mapP b (k, delP l n) := congrArg (mapI k b) (delI_mapP l n)
        rw [h.1, h.2]
        dsimp only
        rw [e4]; exact hq⟩
end
end Pw
