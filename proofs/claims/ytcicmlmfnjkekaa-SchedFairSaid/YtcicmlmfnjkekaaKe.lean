/- Lemmas for the proofs of this seat: no statement of the seat is claimed here. -/
import Derived.Test.YtcicmlmfnjkekaaKd
set_option linter.all false

namespace Go.Proofs.Ytcicmlmfnjkekaa
open Go Pw
set_option maxRecDepth 20000
set_option maxHeartbeats 4000000
set_option synthInstance.maxHeartbeats 400000
set_option synthInstance.maxSize 4000
set_option maxHeartbeats 1000000

/-- The first of a row for which something is so; -1: none. -/
def idxI (f : Nat → Bool) (l : List Nat) : Int := if l.findIdx f < l.length then (l.findIdx f : Int) else -1
theorem idx_none {f : Nat → Bool} {l : List Nat} (h : ∀ j < l.length, f (gt l j) = false) : idxI f l = -1 := by
  unfold idxI
  rw [if_neg]
  intro hlt
  have := List.findIdx_getElem (w := hlt)
  have h2 := h _ hlt
  rw [gt, List.getD_eq_getElem?_getD, List.getElem?_eq_getElem hlt] at h2
  rw [Option.getD_some] at h2
  rw [h2] at this
  cases this
theorem idx_some {f : Nat → Bool} {l : List Nat} {i : Nat} (hi : i < l.length) (h : ∀ j < i, f (gt l j) = false) (hf : f (gt l i) = true) : idxI f l = i ∧ l.findIdx f = i := by
  have e : l.findIdx f = i := by
    rw [List.findIdx_eq hi]
    refine ⟨?_, fun j hj => ?_⟩
    · rw [gt, List.getD_eq_getElem?_getD, List.getElem?_eq_getElem hi, Option.getD_some] at hf; exact hf
    · have := h j hj
      rw [gt, List.getD_eq_getElem?_getD, List.getElem?_eq_getElem (by omega), Option.getD_some] at this; exact this
  exact ⟨by unfold idxI; rw [e, if_pos hi], e⟩
abbrev late (pat : Nat) (tk : Nat → Tk) : Nat → Bool := fun q => decide (pat ≤ (tk q).ps)
attribute [local irreducible] idxI
theorem pick1_spec (p t bx pat : Nat) (v1 v2 v3 v4 v5 : Value) (ps : List Nat) (tk : Nat → Tk) (ht : t ∈ ps) :
    Sat Try.prog 28 [.pointer (some ⟨t, 0, none⟩), .pointer (some ⟨bx, 0, none⟩)] [Pw.row 24 bx [.pointer (some ⟨p, 0, none⟩)], Pw.row 63 p [.int .i64 (pat : Nat), v1, v2, v3, v4, v5], objF tkV 65 ps tk] (fun u L' => u = .bool (decide (pat ≤ (tk t).ps)) ∧ L' = [Pw.row 24 bx [.pointer (some ⟨p, 0, none⟩)], Pw.row 63 p [.int .i64 (pat : Nat), v1, v2, v3, v4, v5], objF tkV 65 ps tk]) := by
  all_goals
    refine Sat.enter Try.func28 rfl Try.ntmps28 rfl (fun c R => ?_)
    try simp only [List.cons_append, List.nil_append]
    repeat' (first
      | exact ht
      | (exact Fini.of ⟨rfl, rfl⟩ (by repeat first | exact Imp.refl _ | (apply Imp.pull; focus ((repeat first | exact Del.head _ _ | apply Del.tail); done)) | apply Imp.drop))
      | refine T.pl 1 [] (.p 0 (.p 1 (.d 2 (.d 3 (.d 4 (.p 5 (.d 6 (.d 7 (.p 8 (.p 9 .fin)))))))))) ?_
      | refine And.intro (fun hc => ?_) (fun hc => ?_)
      | refine And.intro ?_ ?_
      | intro b
      | refine stp ?_
      | refine TQ.finC ?_
      | refine TQ.finC2 ?_
      | refine TQ.finC3 ?_
      | refine ⟨fun hc => ?_, fun hc => ?_⟩
      | refine Ei.f ?_
      | refine ⟨?_, ?_⟩
      | intro b
      | omega
      | (dsimp only; omega)
      | fail)
instance {L R0 R1 R3 : List Assn} {p t bx pat : Nat} {x : Int} {v1 v2 v3 v4 v5 : Value} {ps : List Nat} {tk : Nat → Tk} [hx : Nn x pat] [h0 : RowDel L bx 24 [.pointer (some ⟨p, 0, none⟩)] R0] [h1 : RowDel R0 p 63 [.int .i64 x, v1, v2, v3, v4, v5] R1] [h4 : ObjAt R1 Tk tkV 65 ps tk R3] : FnR Try.prog 28 [.pointer (some ⟨t, 0, none⟩), .pointer (some ⟨bx, 0, none⟩)] L (fun q => Vc (t ∈ ps) (q (.bool (decide (pat ≤ (tk t).ps))) (Pw.row 24 bx [.pointer (some ⟨p, 0, none⟩)] :: Pw.row 63 p [.int .i64 (pat : Nat), v1, v2, v3, v4, v5] :: objF tkV 65 ps tk :: R3))) :=
  ⟨fun q h => ⟨_, R3, _, pick1_spec p t bx pat v1 v2 v3 v4 v5 ps tk h.l, .cons h0.h (.cons (by have := h1.h; rw [hx.h] at this; exact this) (.cons h4.h (.nil _))), fun v L' hv => by rw [hv.1, hv.2]; exact h.r⟩⟩
theorem index_spec (p bx pat k : Nat) (a : Option Addr) (v1 v2 v3 v4 v5 : Value) (rw_ ps : List Nat) (tk : Nat → Tk) (hr : ∀ q ∈ rw_, q ∈ ps) (hl : rw_.length < 1099511627776) :
    Sat Try.prog 27 [.slice a rw_.length k, .func (.func 28) #[] #[.pointer (some ⟨bx, 0, none⟩)]] [Pw.row 24 bx [.pointer (some ⟨p, 0, none⟩)], Pw.row 63 p [.int .i64 (pat : Nat), v1, v2, v3, v4, v5], sl 61 1 (.slice a rw_.length k) rw_.length (rw_.map pv), objF tkV 65 ps tk] (fun u L' => u = .int .i64 (idxI (late pat tk) rw_) ∧ L' = [Pw.row 24 bx [.pointer (some ⟨p, 0, none⟩)], Pw.row 63 p [.int .i64 (pat : Nat), v1, v2, v3, v4, v5], sl 61 1 (.slice a rw_.length k) rw_.length (rw_.map pv), objF tkV 65 ps tk]) := by
  all_goals
    refine Sat.enter Try.func27 rfl Try.ntmps27 rfl (fun c R => ?_)
    try simp only [List.cons_append, List.nil_append]
    repeat' (first
      | (refine T.atB 0 ?_; refine T.lpa 0 [(0, _), (1, _), (7, _)] (0 : Nat) (fun z => [(8, .int .i64 (z : Nat))]) (fun z => []) (fun z => z ≤ rw_.length ∧ ∀ j < z, late pat tk (gt rw_ j) = false) (fun z => rw_.length - z) ⟨Nat.zero_le _, fun j hj => absurd hj (Nat.not_lt_zero _)⟩ ?_; rintro i g ⟨hI, hp⟩; (try dsimp only at hI hp ⊢); simp only [List.cons_append, List.nil_append, appR])
      | (refine TQ.atL ?_; refine TQ.rd (i + 1) rfl ⟨rfl, rfl, rfl, rfl, trivial⟩ ⟨by omega, fun j hj => ?_⟩ (by omega) (Ent.imp (by repeat first | exact Imp.refl _ | (apply Imp.pull; focus ((repeat first | exact Del.head _ _ | apply Del.tail); done)) | apply Imp.drop)); rcases Nat.lt_or_ge j i with e | e; (exact hp j e); (obtain rfl : j = i := (by omega); exact decide_eq_false ‹¬ _ ≤ _›))
      | (exact Fini.of ⟨by rw [(idx_some (f := late pat tk) (by omega) hp (decide_eq_true ‹pat ≤ _›)).1]; rfl, rfl⟩ (by repeat first | exact Imp.refl _ | (apply Imp.pull; focus ((repeat first | exact Del.head _ _ | apply Del.tail); done)) | apply Imp.drop))
      | (exact Fini.of ⟨by rw [idx_none (f := late pat tk) (fun j hj => hp j (by omega))]; rfl, rfl⟩ (by repeat first | exact Imp.refl _ | (apply Imp.pull; focus ((repeat first | exact Del.head _ _ | apply Del.tail); done)) | apply Imp.drop))
      | (exact hr _ (gt_mem (by omega)))
      | refine And.intro (fun hc => ?_) (fun hc => ?_)
      | refine And.intro ?_ ?_
      | intro b
      | refine stp ?_
      | refine TQ.finC ?_
      | refine TQ.finC2 ?_
      | refine TQ.finC3 ?_
      | refine ⟨fun hc => ?_, fun hc => ?_⟩
      | refine Ei.f ?_
      | refine ⟨?_, ?_⟩
      | intro b
      | omega
      | (dsimp only; omega)
      | fail)
instance {L R0 R1 R2 R3 : List Assn} {p bx pat k rn : Nat} {x : Int} {a : Option Addr} {v1 v2 v3 v4 v5 : Value} {rw_ ps : List Nat} {tk : Nat → Tk} [hx : Nn x pat] [h0 : RowDel L bx 24 [.pointer (some ⟨p, 0, none⟩)] R0] [h1 : RowDel R0 p 63 [.int .i64 x, v1, v2, v3, v4, v5] R1] [h2 : SlAt R1 (.slice a rn k) 61 1 rn (rw_.map pv) R2] [h4 : ObjAt R2 Tk tkV 65 ps tk R3] : FnR Try.prog 27 [.slice a rn k, .func (.func 28) #[] #[.pointer (some ⟨bx, 0, none⟩)]] L (fun q => Vc (rn = rw_.length ∧ (∀ q ∈ rw_, q ∈ ps) ∧ rw_.length < 1099511627776) (q (.int .i64 (idxI (late pat tk) rw_)) (Pw.row 24 bx [.pointer (some ⟨p, 0, none⟩)] :: Pw.row 63 p [.int .i64 (pat : Nat), v1, v2, v3, v4, v5] :: sl 61 1 (.slice a rw_.length k) rw_.length (rw_.map pv) :: objF tkV 65 ps tk :: R3))) :=
  ⟨fun q h => by
    obtain ⟨⟨rfl, h5, h6⟩, hq⟩ := h
    exact ⟨_, R3, _, index_spec p bx pat k a v1 v2 v3 v4 v5 rw_ ps tk h5 h6, .cons h0.h (.cons (by have := h1.h; rw [hx.h] at this; exact this) (.cons h2.h (.cons h4.h (.nil _)))), fun v L' hv => by rw [hv.1, hv.2]; exact hq⟩⟩

end Go.Proofs.Ytcicmlmfnjkekaa


namespace Go.Proofs.Ytcicmlmfnjkekaa
open Go Pw
set_option maxRecDepth 20000
set_option maxHeartbeats 4000000
set_option synthInstance.maxHeartbeats 400000
set_option synthInstance.maxSize 4000
set_option maxHeartbeats 400000

theorem one_cells {v : Value} (h : v.oneCell' = true) : v.cells = #[v] := by
  cases v <;> simp_all [Value.oneCell', Value.cells]
class RowSp (L : List Assn) (b : Nat) (e : outParam TypeId) (cs : outParam (List Value)) (mk : outParam (List Value → List Assn)) : Prop where
  h : ∀ cs', Put (Pw.row e b cs) L (Pw.row e b cs') (mk cs')
  m : LMem (Pw.row e b cs) L
instance (priority := 1100) {L : List Assn} {b : Nat} {e : TypeId} {cs : List Value} : RowSp (Pw.row e b cs :: L) b e cs (fun cs' => Pw.row e b cs' :: L) := ⟨fun cs' => .head _ _ _, .head _ _⟩
instance {A : Assn} {L : List Assn} {b : Nat} {e : TypeId} {cs : List Value} {mk : List Value → List Assn} [h : RowSp L b e cs mk] : RowSp (A :: L) b e cs (fun cs' => A :: mk cs') := ⟨fun cs' => .tail (h.h cs'), .tail h.m⟩
instance (priority := 1300) appRow {P : Program} {c : Ctx} {L : List Assn} {t xt e e2 et : TypeId} {b o n cap o2 m k' : Nat} {cs : List Value} {mk : List Value → List Assn} [ht : Und P t (.slice e)] [hxt : Und P xt (.slice e2)] [hz : Sz P e 0] [hr : RowSp L b et cs mk] : St P c L (.builtin .append [.slice (some ⟨b, o, none⟩) n cap, .slice (some ⟨b, o2, none⟩) m k'] [t, xt]) (fun q => Vc (n + m ≤ cap ∧ o2 + m ≤ cs.length ∧ o + n + m ≤ cs.length ∧ ∀ u ∈ (cs.drop o2).take m, u.oneCell' = true) (q (.slice (some ⟨b, o, none⟩) (n + m) cap) (mk (setAll cs (o + n) ((cs.drop o2).take m))))) :=
  ⟨fun r E d op ty pos af g hs q hq => by
    cases hs with | builtin ev =>
    rename_i xs_
    obtain ⟨⟨h1, h2, h3, h4⟩, hq⟩ := hq
    match xs_, ev with
    | [x, y], ⟨e1, e3, _⟩ =>
      have hnl : ((cs.drop o2).take m).length = m := by rw [List.length_take, List.length_drop]; omega
      refine (N.appIn (n := n) (m := m) (cs := cs) (news := (cs.drop o2).take m) (et := et) (sz := 0) e1 e3 ht.h hz.h (Src.sl hxt.h (by rw [hnl, Nat.mul_one]) hr.m (ReadsN.row fun i v hv => ?_)) h4 h1 (by rw [Nat.zero_add, Nat.mul_one]; exact hr.h _) (by rw [Nat.zero_add, Nat.mul_one, hnl]; omega)).imp2 fun v L' w h5 hw => ?_
      · have hi := getS_lt hv
        rw [hnl] at hi
        rw [List.getElem?_take, if_pos hi, List.getElem?_drop] at hv
        exact hv
      · obtain ⟨rfl, rfl⟩ := h5
        exact hq⟩
instance (priority := 1300) clrRow {P : Program} {c : Ctx} {L : List Assn} {t e et : TypeId} {b o n cap : Nat} {z : Value} {cs : List Value} {mk : List Value → List Assn} [ht : Und P t (.slice e)] [hzr : Zr P e z] [h1 : One z] [hr : RowSp L b et cs mk] : St P c L (.builtin .clear [.slice (some ⟨b, o, none⟩) n cap] [t]) (fun q => Vc (n = 1 ∧ o + 1 ≤ cs.length) (q (.tuple #[]) (mk (setAll cs o [z])))) :=
  ⟨fun r E d op ty pos af g hs q hq => by
    cases hs with | builtin ev =>
    rename_i xs_
    obtain ⟨⟨rfl, h2⟩, hq⟩ := hq
    match xs_, ev with
    | [x], ⟨e1, _⟩ =>
      refine (N.clr (n := 0) (sz := 0) (zs := [z]) (cs := cs) (et := et) e1 ht.h hzr.h (one_cells h1.h) rfl (fun u hu => by rw [List.mem_singleton.1 hu]; exact h1.h) (hr.h _) (by omega)).imp2 fun v L' w h5 hw => ?_
      obtain ⟨rfl, rfl⟩ := h5
      exact hq⟩

theorem setAll_get : ∀ (us cs : List Value) (o j : Nat), o + us.length ≤ cs.length → (setAll cs o us)[j]? = if o ≤ j ∧ j < o + us.length then us[j - o]? else cs[j]?
  | [], cs, o, j, _ => by rw [if_neg (by simp <;> omega)]; rfl
  | u :: us, cs, o, j, h => by
    rw [List.length_cons] at h
    rw [setAll, setAll_get us (cs.set o u) (o + 1) j (by rw [List.length_set]; omega)]
    by_cases h1 : j = o
    · subst h1
      rw [if_neg (by omega), if_pos (by rw [List.length_cons]; omega), Nat.sub_self, List.getElem?_set_self (by omega)]; rfl
    · by_cases h2 : o + 1 ≤ j ∧ j < o + 1 + us.length
      · rw [if_pos h2, if_pos (by rw [List.length_cons]; omega), show j - o = (j - (o + 1)) + 1 by omega, List.getElem?_cons_succ]
      · rw [if_neg h2, if_neg (by rw [List.length_cons]; omega), List.getElem?_set_ne (Ne.symm h1)]
theorem setAll_len : ∀ (us cs : List Value) (o : Nat), (setAll cs o us).length = cs.length
  | [], cs, o => rfl
  | u :: us, cs, o => by rw [setAll, setAll_len us, List.length_set]
theorem del_cells {rw_ : List Nat} {rest : List Value} {i : Nat} (hi : i < rw_.length) : setAll (setAll (rw_.map pv ++ rest) (0 + i) (((rw_.map pv ++ rest).drop (i + 1)).take (rw_.length - (i + 1)))) (rw_.length - 1) [.pointer none] = (rw_.eraseIdx i).map pv ++ (.pointer none :: rest) := by
  have hl : (((rw_.map pv ++ rest).drop (i + 1)).take (rw_.length - (i + 1))).length = rw_.length - (i + 1) := by simp; omega
  have he : (rw_.eraseIdx i).length = rw_.length - 1 := by rw [List.length_eraseIdx, if_pos hi]
  apply List.ext_getElem?
  intro j
  rw [setAll_get _ _ _ _ (by rw [setAll_len]; simp; omega), setAll_get _ _ _ _ (by rw [hl]; simp; omega), hl, List.length_singleton]
  by_cases h1 : rw_.length - 1 ≤ j ∧ j < rw_.length - 1 + 1
  · rw [if_pos h1, show j - (rw_.length - 1) = 0 by omega, List.getElem?_append_right (by simp [he]; omega), List.length_map, he, show j - (rw_.length - 1) = 0 by omega]; rfl
  · rw [if_neg h1]
    by_cases h2 : 0 + i ≤ j ∧ j < 0 + i + (rw_.length - (i + 1))
    · rw [if_pos h2, List.getElem?_take, if_pos (by omega), List.getElem?_drop, List.getElem?_append_left (by simp; omega), List.getElem?_append_left (by simp [he]; omega), List.getElem?_map, List.getElem?_map, List.getElem?_eraseIdx, if_neg (by omega), show i + 1 + (j - (0 + i)) = j + 1 by omega]
    · rw [if_neg h2]
      rcases Nat.lt_or_ge j i with h3 | h3
      · rw [List.getElem?_append_left (by simp; omega), List.getElem?_append_left (by simp [he]; omega), List.getElem?_map, List.getElem?_map, List.getElem?_eraseIdx, if_pos h3]
      · rw [List.getElem?_append_right (by simp; omega), List.getElem?_append_right (by simp [he]; omega), List.length_map, List.length_map, he, show j - (rw_.length - 1) = (j - rw_.length) + 1 by omega, List.getElem?_cons_succ]
theorem off_c {n kk i : Nat} (hi : i < n) : offS (n + kk) (i + 1) 0 ((i + 1) * (0 + 1)) = i + 1 ∨ (offS (n + kk) (i + 1) 0 ((i + 1) * (0 + 1)) ≤ i + 1 ∧ n = i + 1) := by
  unfold offS
  split
  · right; omega
  · left; omega
theorem off_le {n kk i : Nat} (hi : i < n) : offS (n + kk) (i + 1) 0 ((i + 1) * (0 + 1)) + (n - (i + 1)) ≤ n := by
  rcases off_c (kk := kk) hi with h | h <;> omega
theorem off_take {α : Type} {n kk i : Nat} (cs : List α) (hi : i < n) : (cs.drop (offS (n + kk) (i + 1) 0 ((i + 1) * (0 + 1)))).take (n - (i + 1)) = (cs.drop (i + 1)).take (n - (i + 1)) := by
  rcases off_c (kk := kk) hi with h | ⟨_, h⟩
  · rw [h]
  · rw [show n - (i + 1) = 0 by omega, List.take_zero, List.take_zero]
theorem del_walk {rw_ : List Nat} {rest : List Value} {i kk : Nat} (hi : i < rw_.length) : setAll (setAll (rw_.map pv ++ rest) (0 + i) (List.take (rw_.length - (i + 1)) (List.drop (offS (rw_.length + kk) (i + 1) 0 ((i + 1) * (0 + 1))) (rw_.map pv ++ rest)))) ((i + (rw_.length - (i + 1))) * (0 + 1)) [.pointer none] = (rw_.eraseIdx i).map pv ++ (.pointer none :: rest) := by
  rw [off_take _ hi, show (i + (rw_.length - (i + 1))) * (0 + 1) = rw_.length - 1 by omega, del_cells hi]
theorem ones_news {rw_ : List Nat} {rest : List Value} {i kk : Nat} (hi : i < rw_.length) {u : Value} (hu : u ∈ List.take (rw_.length - (i + 1)) (List.drop (offS (rw_.length + kk) (i + 1) 0 ((i + 1) * (0 + 1))) (rw_.map pv ++ rest))) : u.oneCell' = true := by
  rw [off_take _ hi, List.drop_append_of_le_length (by rw [List.length_map]; omega), List.take_left' (by rw [List.length_drop, List.length_map])] at hu
  obtain ⟨x, _, rfl⟩ := List.mem_map.1 (List.mem_of_mem_drop hu)
  rfl
theorem delete_row (b i kk : Nat) (rw_ : List Nat) (rest : List Value) (hi : i < rw_.length) (hk : rest.length = kk) (hl : rw_.length < 1099511627776) :
    Sat Try.prog 29 [.slice (some ⟨b, 0, none⟩) rw_.length (rw_.length + kk), .int .i64 (i : Nat), .int .i64 ((i + 1 : Nat) : Int)] [Pw.row 61 b (rw_.map pv ++ rest)] (fun u L' => u = .slice (some ⟨b, 0, none⟩) (rw_.eraseIdx i).length (rw_.length + kk) ∧ L' = [Pw.row 61 b ((rw_.eraseIdx i).map pv ++ (.pointer none :: rest))]) := by
  all_goals
    refine Sat.enter Try.func29 rfl Try.ntmps29 rfl (fun c R => ?_)
    try simp only [List.cons_append, List.nil_append]
    repeat' (first
      | (rw [del_walk hi]; exact Fini.of ⟨by rw [List.length_eraseIdx, if_pos hi, show i + (rw_.length - (i + 1)) = rw_.length - 1 by omega]; rfl, rfl⟩ (by repeat first | exact Imp.refl _ | (apply Imp.pull; focus ((repeat first | exact Del.head _ _ | apply Del.tail); done)) | apply Imp.drop))
      | (exact ones_news hi ‹_›)
      | (have := off_le (kk := kk) hi; simp only [List.length_append, List.length_map]; omega)
      | (simp only [setAll_len, List.length_append, List.length_map]; omega)
      | (simp only [List.length_append, List.length_map]; omega)
      | refine T.pl 5 [6] (.p 0 (.p 1 (.p 2 (.p 3 (.p 4 (.p 5 (.n 6 (.p 7 .fin)))))))) ?_
      | refine And.intro (fun hc => ?_) (fun hc => ?_)
      | refine And.intro ?_ ?_
      | intro b
      | refine stp ?_
      | refine TQ.finC ?_
      | refine TQ.finC2 ?_
      | refine TQ.finC3 ?_
      | refine ⟨fun hc => ?_, fun hc => ?_⟩
      | refine Ei.f ?_
      | refine ⟨?_, ?_⟩
      | intro b
      | omega
      | (dsimp only; omega)
      | fail)

theorem Sat.sl_casesO {P : Program} {f : FuncId} {args : List Value} {e : TypeId} {sz n : Nat} {v : Value} {xs : List Value} {B : Value → List Assn → Prop} (h0 : v = .slice none 0 0 → n = 0 → xs = [] → Sat P f args [] B)
    (h1 : ∀ b k rest, v = .slice (some ⟨b, 0, none⟩) n (n + k) → xs.length = n * sz → rest.length = k * sz → Sat P f args [Pw.row e b (xs ++ rest)] B) : Sat P f args [Pw.sl e sz v n xs] B := by
  intro c R w hw
  obtain ⟨e1, e2, e3, f1, f2, hdj, hf1, hf2, hsl, hl⟩ := hw
  rcases hsl with ⟨hv, hn, hxs⟩ | ⟨b, k, rest, hv, hxl, hrl, hrow⟩
  · exact h0 hv hn hxs c R w ⟨e1, e2, e3, hl.mono hf2⟩
  · exact h1 b k rest hv hxl hrl c R w ⟨e1, e2, e3, f1, f2, hdj, hf1, hf2, hrow, hl⟩

theorem delete_spec (a : Option Addr) (i k : Nat) (rw_ : List Nat) (hi : i < rw_.length) (hl : rw_.length < 1099511627776) :
    Sat Try.prog 29 [.slice a rw_.length k, .int .i64 (i : Nat), .int .i64 ((i + 1 : Nat) : Int)] [sl 61 1 (.slice a rw_.length k) rw_.length (rw_.map pv)] (fun u L' => u = .slice a (rw_.eraseIdx i).length k ∧ L' = [sl 61 1 (.slice a (rw_.eraseIdx i).length k) (rw_.eraseIdx i).length ((rw_.eraseIdx i).map pv)]) := by
  refine Sat.sl_casesO (fun h0 h1 h2 => ?_) (fun b kk rest hv hx hr => ?_)
  · omega
  · simp only [Value.slice.injEq] at hv
    obtain ⟨rfl, _, rfl⟩ := hv
    have he : (rw_.eraseIdx i).length = rw_.length - 1 := by rw [List.length_eraseIdx, if_pos hi]
    refine (delete_row b i kk rw_ rest hi (by omega) hl).post ?_
    rintro u L' ⟨rfl, rfl⟩
    refine ⟨_, Imp.sl (b := b) (n := (rw_.eraseIdx i).length) (k := kk + 1) (xs := (rw_.eraseIdx i).map pv) (sz := 1) (rest := .pointer none :: rest) (L' := []) (.head _ _) (by simp) (by simp; omega) (Imp.refl _), rfl, ?_⟩
    rw [show (rw_.eraseIdx i).length + (kk + 1) = rw_.length + kk by omega]

end Go.Proofs.Ytcicmlmfnjkekaa

