/- Lemmas for the proofs of this seat: no statement of the seat is claimed here. -/
import Derived.Test.YtmhkmcoobpfkcaaKm
import Derived.Test.YtmhkmcoobpfkcaaKo
import Derived.Test.YtmhkmcoobpfkcaaSg
set_option linter.all false

namespace Go.Proofs.Ytmhkmcoobpfkcaa
open Go Pw
set_option maxRecDepth 20000
set_option maxHeartbeats 4000000
set_option synthInstance.maxHeartbeats 400000
set_option synthInstance.maxSize 4000
set_option maxHeartbeats 8000000

theorem key_eq (p q : Pkt) : decide (keyE p = keyE q) = (decide (p.src = q.src) && decide (p.dst = q.dst) && decide (p.proto = q.proto) && decide (p.id = q.id)) := by
  rw [Bool.eq_iff_iff]
  simp only [decide_eq_true_eq, Bool.and_eq_true, keyE, Prod.mk.injEq, and_assoc]
theorem par_split (p q : Pkt) : parE p q = ((decide (plE p < enE q) && decide (plE q < enE p)) || (!q.more && (!p.more || decide (enE q < enE p))) || (!p.more && decide (enE p < enE q))) := by
  unfold parE behE
  cases p.more <;> cases q.more <;> simp <;> cases decide (plE p < enE q) <;> cases decide (plE q < enE p) <;> cases decide (enE q < enE p) <;> cases decide (enE p < enE q) <;> rfl
theorem tog31 (p q : Pkt) :
    Sat Try.prog 31 [.agg (pktV p).toArray, .agg (pktV q).toArray] [] (fun u L' => u = .bool (decide (keyE p = keyE q)) ∧ L' = []) := by
  all_goals
    refine Sat.enter Try.func31 rfl Try.ntmps31 rfl (fun c R => ?_)
    try simp only [List.cons_append, List.nil_append]
    repeat' (first
      | (exact Fini.of ⟨eqB (by rw [key_eq]; simp [*]), rfl⟩ (by repeat first | exact Imp.refl _ | (apply Imp.pull; focus ((repeat first | exact Del.head _ _ | apply Del.tail); done)) | apply Imp.drop))
      | refine And.intro (fun hc => ?_) (fun hc => ?_)
      | refine And.intro ?_ ?_
      | intro b
      | refine stp ?_
      | refine TQ.finC ?_
      | refine TQ.finC2 ?_
      | refine TQ.finC3 ?_
      | refine ⟨fun hc => ?_, fun hc => ?_⟩
      | refine Ei.f ?_
      | refine ⟨?_, ?_⟩
      | intro b
      | exact absurd rfl hc
      | exact absurd hc (by decide)
      | exact absurd rfl hc
      | exact absurd hc (by decide)
      | omega
      | (dsimp only; omega)
      | fail)
instance {L : List Assn} {p q : Pkt} {us vs : List Value} [hu : InvL pktV us p] [hv : InvL pktV vs q] : FnR Try.prog 31 [.agg us.toArray, .agg vs.toArray] L (fun kk => kk (.bool (decide (keyE p = keyE q))) L) := ⟨fun kk h => ⟨[], L, _, by rw [← hu.h, ← hv.h]; exact tog31 p q, .nil _, fun v L' hq => by rw [hq.1, hq.2]; exact h⟩⟩
theorem any_no {t : Pkt → Bool} {l : List Pkt} (h : ∀ j, j < l.length → t (gt l j) = false) : l.any t = false := by
  rw [List.any_eq_false]
  intro x hx
  obtain ⟨j, hj, rfl⟩ := List.getElem_of_mem hx
  have := gt_get hj
  rw [List.getElem?_eq_getElem hj] at this
  rw [Option.some.inj this, h j hj]; simp
theorem bad34 (p : Pkt) (l : List Pkt) (a : Option Addr) (k : Nat) (hp : p.ok) (hall : ∀ q ∈ l, q.ok) (hn : l.length < 1000000) :
    Sat Try.prog 34 [.slice a l.length k, .agg (pktV p).toArray] [Pw.sl 38 (8 + 1) (.slice a l.length k) l.length (l.flatMap pktV)] (fun u L' => u = .bool (l.any (parE p)) ∧ L' = [Pw.sl 38 (8 + 1) (.slice a l.length k) l.length (l.flatMap pktV)]) := by
  all_goals
    refine Sat.enter Try.func34 rfl Try.ntmps34 rfl (fun c R => ?_)
    try simp only [List.cons_append, List.nil_append]
    repeat' (first
      | refine Pw.LkG.stkg ?_
      | (refine T.atB 0 ?_; obtain ⟨b3, hb3⟩ : ∃ x, x = b := ⟨_, rfl⟩; subst hb3; refine T.lpa 0 [(0, _), (3, _)] (0 : Nat) (fun i => [(5, .int .i64 (i : Nat))]) (fun _ => []) (fun i => i ≤ l.length ∧ ∀ j, j < i → parE p (gt l j) = false) (fun i => l.length - i) ⟨Nat.zero_le _, fun j hj => absurd hj (Nat.not_lt_zero j)⟩ ?_; rintro i g ⟨hi, hj⟩; have hq : i < l.length → (gt l i).ok := (fun h => hall _ (gt_memP h)); have hq1 := fun h => (hq h).off; have hq2 := fun h => (hq h).data; have hp1 := hp.off; have hp2 := hp.data; have hz1 : plE p ≤ 524280 := (by unfold plE; omega); have hz2 : enE p ≤ 4295491576 := (by unfold enE; omega); have hz3 : i < l.length → plE (gt l i) ≤ 524280 := (fun h => by have := hq1 h; unfold plE; omega); have hz4 : i < l.length → enE (gt l i) ≤ 4295491576 := (fun h => by have := hq1 h; have := hq2 h; unfold enE; omega); simp only [List.cons_append, List.nil_append, appR])
      | (refine T.atSR 5 ?_; obtain ⟨b6, hb6⟩ : ∃ x, x = b := ⟨_, rfl⟩; subst hb6; refine T.cutR 5 (fun _ : Unit => [(0, .slice a l.length k), (3, .pointer (some ⟨b3, 0, none⟩)), (5, .int .i64 (i : Nat)), (57, .bool (parE p (gt l i)))]) (fun _ => row 38 b6 (pktV (gt l i)) :: row 38 b3 (pktV p) :: Pw.sl 38 (8 + 1) (.slice a l.length k) l.length (l.flatMap pktV) :: R) (fun _ => True) ?_ (fun _ g _ => ?_))
      | (refine TQ.atC ?_; refine TQ.cn (() : Unit) rfl ⟨rfl, rfl, rfl, eqB (by first | exact absurd (Eq.trans (Eq.symm ‹(!p.more) = true›) ‹(!p.more) = false›) (by decide) | rw [par_split]; simp only [*, decide_true, decide_false, Bool.true_and, Bool.and_true, Bool.false_and, Bool.and_false, Bool.true_or, Bool.or_true, Bool.false_or, Bool.or_false, Bool.not_true, Bool.not_false]), trivial⟩ trivial (Ent.imp (by repeat first | exact Imp.refl _ | (apply Imp.pull; focus ((repeat first | exact Del.head _ _ | apply Del.tail); done)) | apply Imp.drop)))
      | (refine TQ.atL ?_; refine TQ.rda (i + 1 : Nat) ⟨by omega, fun j h => (by rcases Nat.lt_or_eq_of_le (Nat.le_of_lt_succ h) with h | h; exact hj j h; rw [h]; assumption)⟩ ?_)
      | exact hp
      | exact hq (by assumption)
      | (exact Fini.of ⟨eqB (List.any_eq_true.2 ⟨_, gt_memP (by assumption), by assumption⟩).symm, rfl⟩ (by repeat first | exact Imp.refl _ | (apply Imp.pull; focus ((repeat first | exact Del.head _ _ | apply Del.tail); done)) | apply Imp.drop))
      | (obtain rfl : i = l.length := (by omega); exact Fini.of ⟨eqB (any_no hj).symm, rfl⟩ (by repeat first | exact Imp.refl _ | (apply Imp.pull; focus ((repeat first | exact Del.head _ _ | apply Del.tail); done)) | apply Imp.drop))
      | refine T.pk 5 [1, 3, 7, 9, 22, 24, 35, 37] (.g 0 (.g 2 (.n 1 (.n 3 (.p 4 (.p 5 (.g 6 (.g 8 (.n 7 (.n 9 (.p 10 (.p 11 (.p 12 (.d 13 (.g 14 (.p 15 (.p 16 (.d 17 (.g 18 (.p 19 (.p 20 (.g 21 (.g 23 (.n 22 (.n 24 (.p 25 (.p 26 (.p 27 (.p 28 (.p 29 (.d 30 (.g 31 (.p 32 (.p 33 (.g 34 (.g 36 (.n 35 (.n 37 (.p 38 (.p 39 (.p 40 .fin))))))))))))))))))))))))))))))))))))))))) ?_
      | refine And.intro (fun hc => ?_) (fun hc => ?_)
      | refine And.intro ?_ ?_
      | intro b
      | refine stk ?_
      | refine stp ?_
      | refine TQ.finC ?_
      | refine TQ.finC2 ?_
      | refine TQ.finC3 ?_
      | refine ⟨fun hc => ?_, fun hc => ?_⟩
      | refine Ei.f ?_
      | refine ⟨?_, ?_⟩
      | intro b
      | exact absurd rfl hc
      | exact absurd hc (by decide)
      | exact absurd rfl hc
      | exact absurd hc (by decide)
      | omega
      | (dsimp only; omega)
      | fail)

end Go.Proofs.Ytmhkmcoobpfkcaa


namespace Go.Proofs.Ytmhkmcoobpfkcaa
open Go Pw
set_option maxRecDepth 20000
set_option maxHeartbeats 4000000
set_option synthInstance.maxHeartbeats 400000
set_option synthInstance.maxSize 4000
set_option maxHeartbeats 8000000

abbrev RY := (Option Addr × Nat) × PSet
abbrev ptrS (y : RY) : List Value := [.slice y.1.1 y.2.l.length y.1.2, .int .u64 y.2.til]
instance : FLen ptrS 2 := ⟨fun _ => rfl⟩
instance : FLen ptrS (1 + 1) := ⟨fun _ => rfl⟩
theorem getS_lt {α : Type} {l : List α} {i : Nat} {v : α} (h : l[i]? = some v) : i < l.length := by
  rcases Nat.lt_or_ge i l.length with h1 | h1
  · exact h1
  · rw [List.getElem?_eq_none h1] at h; cases h
/-- A part of a row that is appended. -/
class PartV (cs : List Value) (o m sz : Nat) (ys : outParam (List Value)) (C : outParam Prop) : Prop where h : C → (cs.drop o).take (m * sz) = ys ∧ (∀ u ∈ ys, u.oneCell' = true) ∧ o + m * sz ≤ cs.length
theorem flat_take {α : Type} {f : α → List Value} {sz : Nat} (hf : ∀ x, (f x).length = sz) : ∀ (l : List α) (m : Nat), (l.flatMap f).take (m * sz) = (l.take m).flatMap f
  | [], m => by simp
  | a :: l, 0 => by simp
  | a :: l, m + 1 => by
    have h1 : (m + 1) * sz = (f a).length + m * sz := by rw [hf a, Nat.succ_mul]; omega
    rw [List.flatMap_cons, h1, List.take_length_add_append, flat_take hf l m]; rfl
theorem flat_drop {α : Type} {f : α → List Value} {sz : Nat} (hf : ∀ x, (f x).length = sz) : ∀ (l : List α) (m : Nat), (l.flatMap f).drop (m * sz) = (l.drop m).flatMap f
  | [], m => by simp
  | a :: l, 0 => by simp
  | a :: l, m + 1 => by
    have h1 : (m + 1) * sz = (f a).length + m * sz := by rw [hf a, Nat.succ_mul]; omega
    rw [List.flatMap_cons, h1, List.drop_length_add_append, flat_drop hf l m]; rfl
theorem flat_length {α : Type} {f : α → List Value} {sz : Nat} (hf : ∀ x, (f x).length = sz) (l : List α) : (l.flatMap f).length = l.length * sz := by
  induction l with
  | nil => simp
  | cons a l ih => rw [List.flatMap_cons, List.length_append, ih, hf a, List.length_cons, Nat.succ_mul]; omega
theorem part_of {α : Type} {f : α → List Value} {l : List α} {rest : List Value} {j m sz : Nat} (hf : ∀ x, (f x).length = sz) (h1 : ∀ x, OnesL (f x)) (h : j + m ≤ l.length) : ((l.flatMap f ++ rest).drop (j * sz)).take (m * sz) = ((l.drop j).take m).flatMap f ∧ (∀ u ∈ ((l.drop j).take m).flatMap f, u.oneCell' = true) ∧ j * sz + m * sz ≤ (l.flatMap f ++ rest).length := by
  have hl := flat_length hf l
  have hm : (j + m) * sz ≤ l.length * sz := Nat.mul_le_mul_right _ h
  rw [Nat.add_mul] at hm
  refine ⟨?_, fun u hu => ?_, by rw [List.length_append]; omega⟩
  · rw [List.drop_append_of_le_length (by omega), List.take_append_of_le_length (by rw [List.length_drop]; omega), flat_drop hf, flat_take hf]
  · obtain ⟨x, _, hx⟩ := List.mem_flatMap.1 hu; exact (h1 x).h u hx
instance {α : Type} {f : α → List Value} {l : List α} {rest : List Value} {m sz : Nat} [hf : FLen f sz] [h1 : ∀ x, OnesL (f x)] : PartV (l.flatMap f ++ rest) 0 m sz ((l.take m).flatMap f) (m ≤ l.length) := ⟨fun h => by
  have := part_of (f := f) (l := l) (rest := rest) (j := 0) (m := m) hf.h h1 (by omega)
  rw [Nat.zero_mul, List.drop_zero (l := l)] at this; exact this⟩
instance {α : Type} {f : α → List Value} {l : List α} {rest : List Value} {j m sz : Nat} [hf : FLen f sz] [h1 : ∀ x, OnesL (f x)] : PartV (l.flatMap f ++ rest) (j * sz) m sz (((l.drop j).take m).flatMap f) (j + m ≤ l.length) := ⟨fun h => part_of hf.h h1 h⟩
instance {α : Type} {f : α → List Value} {l : List α} {rest : List Value} {cap lo m sz : Nat} [hf : FLen f sz] [h1 : ∀ x, OnesL (f x)] : PartV (l.flatMap f ++ rest) (offS cap lo 0 (lo * sz)) m sz (((l.drop lo).take m).flatMap f) (lo + m ≤ l.length ∧ (lo = cap → m = 0)) := ⟨fun h => by
  by_cases hc : lo = cap
  · have hm := h.2 hc
    subst hm
    simp [offS, hc]
  · have e : offS cap lo 0 (lo * sz) = lo * sz := if_neg (fun e => hc e.symm)
    rw [e]; exact part_of hf.h h1 h.1⟩
instance (priority := 1250) appPart {P : Program} {c : Ctx} {L R : List Assn} {t xt e e' et e2 : TypeId} {a : Option Addr} {b o n k m k' sz sz' by_ : Nat} {xs cs ys zs us : List Value} {z : Value} {C C2 : Prop} [ht : Und P t (.slice e)] [hxt : Und P xt (.slice e2)] [hz : Sz P e sz] [hb : By P e by_] [hzr : Zr P e z] [hcz : Cel z zs] [hlz : Len zs (sz + 1)]
    [hd : SlAt L (.slice a n k) e' sz' n xs R] [hr : RowAt L b et cs] [hp : PartV cs o m (sz + 1) ys C] [ha : AppV xs ys us C2] :
    St P c L (.builtin .append [.slice a n k, .slice (some ⟨b, o, none⟩) m k'] [t, xt]) (fun q => Vc (e' = e ∧ sz' = sz + 1 ∧ (n + m) * (by_ + 1) ≤ 140737488355328 ∧ C ∧ C2) (∀ a2 k2, q (.slice a2 (n + m) k2) (Pw.sl e (sz + 1) (.slice a2 (n + m) k2) (n + m) us :: R))) :=
  ⟨fun r E d op ty pos af g hs q hq => by
    cases hs with | builtin ev =>
    rename_i xs_
    obtain ⟨⟨rfl, rfl, hlim, hC, hC2⟩, hq⟩ := hq
    match xs_, ev with
    | [x, y], ⟨e1, e3, _⟩ =>
      obtain ⟨h1, h2, h3⟩ := hp.h hC
      have hnl : ys.length = m * (sz + 1) := by rw [← h1, List.length_take, List.length_drop]; omega
      refine (N.app e1 e3 ht.h hz.h hb.h hzr.h (cellsL_eq z) (by rw [hcz.h]; exact hlz.h) hd.h (Src.sl hxt.h hnl hr.h (ReadsN.row fun i v hv => ?_)) h2 hlim).imp2 fun v L' w h5 hw => ?_
      · have hi := getS_lt hv
        rw [hnl] at hi
        rw [← h1, List.getElem?_take, if_pos hi, List.getElem?_drop] at hv
        exact hv
      · subst h5
        obtain ⟨a2, k2, rfl⟩ := hw.sl_form
        rw [ha.h hC2]
        exact hq a2 k2⟩
theorem imp_nilS {L : List Assn} : Imp L (Pw.sl 74 (1 + 1) (.slice none 0 0) 0 [] :: L) := Imp.slN (Imp.refl _)
theorem er_list {α : Type} {Y : List α} {i : Nat} : Y.take i ++ (Y.drop (i + 1)).take (Y.length - (i + 1)) = Y.eraseIdx i := by
  rw [List.eraseIdx_eq_take_drop_succ, List.take_of_length_le (l := Y.drop (i + 1)) (by rw [List.length_drop]; omega)]
theorem er_len {α : Type} {Y : List α} {i : Nat} (h : i < Y.length) : 0 + i + (Y.length - (i + 1)) = (Y.eraseIdx i).length := by
  rw [List.length_eraseIdx, if_pos h]; omega
def lstA (y : RY) : Assn := Pw.sl 38 (8 + 1) (.slice y.1.1 y.2.l.length y.1.2) y.2.l.length (y.2.l.flatMap pktV)
theorem drop30 (r most life : Nat) (Y : List RY) (a : Option Addr) (k i : Nat) (hi : i < Y.length) (hn : Y.length < 1000000) :
    Sat Try.prog 30 [.pointer (some ⟨r, 0, none⟩), .int .i64 (i : Nat)] [Pw.sl 74 (1 + 1) (.slice a Y.length k) Y.length (Y.flatMap ptrS), row 34 r [.int .i64 most, .int .u64 life, .slice a Y.length k]] (fun u L' => ∃ a2 k2, u = .tuple #[] ∧ L' = [row 34 r [.int .i64 most, .int .u64 life, .slice a2 (Y.eraseIdx i).length k2], Pw.sl 74 (1 + 1) (.slice a2 (Y.eraseIdx i).length k2) (Y.eraseIdx i).length ((Y.eraseIdx i).flatMap ptrS)]) := by
  refine Sat.open_sl (fun _ h0 _ => by omega) ?_
  rintro b0 k0 rest hv - hrest
  cases hv
  have hgo : True := trivial
  all_goals
    refine Sat.enter Try.func30 rfl Try.ntmps30 rfl (fun c R => ?_)
    try simp only [List.cons_append, List.nil_append]
    repeat' (first
      | (refine T.atR 1 ?_; clear hgo; refine T.ent (Ent.imp imp_nilS) ?_)
      | exact ⟨rfl, rfl, by omega, by omega, trivial⟩
      | exact ⟨rfl, rfl, by omega, ⟨by omega, by omega⟩, trivial⟩
      | (rename_i a9; rw [er_list, er_len hi]; exact Fini.of ⟨_, _, rfl, rfl⟩ (by repeat first | exact Imp.refl _ | (apply Imp.pull; focus ((repeat first | exact Del.head _ _ | apply Del.tail); done)) | apply Imp.drop))
      | refine And.intro (fun hc => ?_) (fun hc => ?_)
      | refine And.intro ?_ ?_
      | intro b
      | refine stp ?_
      | refine TQ.finC ?_
      | refine TQ.finC2 ?_
      | refine TQ.finC3 ?_
      | refine ⟨fun hc => ?_, fun hc => ?_⟩
      | refine Ei.f ?_
      | refine ⟨?_, ?_⟩
      | intro b
      | exact absurd rfl hc
      | exact absurd hc (by decide)
      | exact absurd rfl hc
      | exact absurd hc (by decide)
      | exact absurd rfl hc
      | exact absurd hc (by decide)
      | omega
      | (dsimp only; omega)
      | fail)

end Go.Proofs.Ytmhkmcoobpfkcaa


namespace Go.Proofs.Ytmhkmcoobpfkcaa
open Go Pw
set_option maxRecDepth 20000
set_option maxHeartbeats 4000000
set_option synthInstance.maxHeartbeats 400000
set_option synthInstance.maxSize 4000
set_option maxHeartbeats 8000000

/-- The lists of the sets. -/
def famL (Y : List RY) : Assn := fun f => SLh (Y.map lstA) f
theorem famL_open {A B : List RY} {y : RY} {R : List Assn} : Imp (famL (A ++ y :: B) :: R) (lstA y :: famL (A ++ B) :: R) := fun f hf => by
  have h1 := Imp.flat (X := famL (A ++ y :: B)) (R := R) (fun _ => Iff.rfl) f hf
  rw [List.map_append, List.map_cons] at h1
  have h2 : SLh (lstA y :: ((A ++ B).map lstA) ++ R) f := by
    refine h1.perm ?_
    rw [List.map_append, List.cons_append]
    exact (List.perm_middle (l₁ := A.map lstA) (l₂ := B.map lstA) (a := lstA y)).append_right R
  obtain ⟨f1, f2, hd, k1, k2, ha, hl⟩ := h2
  exact ⟨f1, f2, hd, k1, k2, ha, Imp.shut (X := famL (A ++ B)) (R := R) (fun _ => Iff.rfl) f2 hl⟩
theorem famL_shut {A B : List RY} {y : RY} {R : List Assn} : Imp (lstA y :: famL (A ++ B) :: R) (famL (A ++ y :: B) :: R) := fun f hf => by
  obtain ⟨f1, f2, hd, k1, k2, ha, hl⟩ := hf
  have h1 := Imp.flat (X := famL (A ++ B)) (R := R) (fun _ => Iff.rfl) f2 hl
  refine Imp.shut (X := famL (A ++ y :: B)) (R := R) (fun _ => Iff.rfl) f ?_
  have h2 : SLh (lstA y :: (((A ++ B).map lstA) ++ R)) f := ⟨f1, f2, hd, k1, k2, ha, h1⟩
  refine h2.perm ?_
  rw [List.map_append, List.map_append, List.map_cons, ← List.cons_append]
  exact (List.perm_middle (l₁ := A.map lstA) (l₂ := B.map lstA) (a := lstA y)).symm.append_right R
theorem famL_sub {X : List RY} {R : List Assn} : ∀ {Y : List RY}, Y.Sublist X → Imp (famL X :: R) (famL Y :: R) := fun {Y} h f hf => by
  have h1 := Imp.flat (X := famL X) (R := R) (fun _ => Iff.rfl) f hf
  refine Imp.shut (X := famL Y) (R := R) (fun _ => Iff.rfl) f ?_
  clear hf
  induction h generalizing f with
  | slnil => exact h1
  | cons a _ ih => exact ih _ h1.tail
  | cons_cons a _ ih =>
    obtain ⟨f1, f2, hd, k1, k2, ha, hl⟩ := h1
    exact ⟨f1, f2, hd, k1, k2, ha, ih _ hl⟩
theorem famL_nil {L : List Assn} : Imp L (famL [] :: L) := fun f hf => ⟨fun _ => none, f, fun _ => .inl rfl, (fun _ _ (h : none = some _) => nomatch h), fun _ _ h => h, trivial, hf⟩
class FamL (L : List Assn) (Y : outParam (List RY)) (R : outParam (List Assn)) : Prop where h : Del (famL Y) L R
instance (priority := 1100) {L : List Assn} {Y : List RY} : FamL (famL Y :: L) Y L := ⟨.head _ _⟩
instance {A : Assn} {L R : List Assn} {Y : List RY} [h : FamL L Y R] : FamL (A :: L) Y (A :: R) := ⟨.tail h.h⟩
theorem split_gt {Y : List RY} {i : Nat} (h : i < Y.length) : Y = Y.take i ++ gt Y i :: Y.drop (i + 1) := by
  conv => lhs; rw [← List.take_append_drop i Y, drop_gt h]
theorem famL_at {L R : List Assn} {Y : List RY} {i : Nat} (h : Del (famL Y) L R) (hi : i < Y.length) : Imp L (lstA (gt Y i) :: famL (Y.take i ++ Y.drop (i + 1)) :: R) := by
  have e := split_gt hi
  refine (Imp.pull h (Imp.refl R)).trans ?_
  conv => lhs; rw [e]
  exact famL_open
theorem D.impL {P : Program} {c : Ctx} {L L' : List Assn} {E : Env} {o : Oper} {v : Value} (h : Imp L L') (hd : D P c L' E o v) : D P c L E o v := by
  unfold D at *
  exact ⟨hd.1, fun w hw => hd.2 w ⟨hw.1, hw.2.1, hw.2.2.1, h _ hw.2.2.2⟩⟩
section
variable {P : Program} {c : Ctx} {L R : List Assn}
instance (priority := 950) {x : Int} {t e : TypeId} {Y : List RY} {i j n m : Nat} {k : IntKind} [ht : Und P t (.slice e)] [hz : Sz P e 8] [hf : FamL L Y R] [h1 : Nn x j] : Re P c L (.indexAddr t (.slice (gt Y i).1.1 n m) (.int k x)) (fun q => Vc (i < Y.length ∧ n = (gt Y i).2.l.length ∧ m = (gt Y i).1.2 ∧ j < n) (q (.pointer (eA (gt Y i).1.1 (j * (8 + 1)))))) :=
  ⟨fun E d op ty pos af g hs q hq => by
    cases hs with | indexAddr e1 e2 =>
    rw [h1.h] at e2
    obtain ⟨⟨hi, rfl, rfl, hj⟩, hq⟩ := hq
    exact ⟨_, D.impL (famL_at hf.h hi) (D.iasE e1 e2 ht.h hz.h (.head _ _) hj), hq⟩⟩
instance (priority := 950) {t ft : TypeId} {Y : List RY} {i j k fo m : Nat} {fs : List Field} {nm tg pk : String} {em : Bool} {bo : Nat} [ht : Und P t (.struct fs.toArray)] [hfl : GL fs k ⟨nm, ft, fo, em, tg, pk, bo⟩] [hz : Sz P ft m] [hf : FamL L Y R] : Re P c L (.fieldAddr t (.pointer (eA (gt Y i).1.1 j)) k) (fun z => Vc (i < Y.length ∧ 0 < (gt Y i).2.l.length) (z (.pointer (eA (gt Y i).1.1 (j + fo))))) :=
  ⟨fun E d op ty pos af g hs z hq => by
    cases hs with | fieldAddr e1 =>
    obtain ⟨⟨hi, hn⟩, hq⟩ := hq
    exact ⟨_, D.impL (famL_at hf.h hi) (D.faE fo (i := 0) e1 ht.h (by have := hfl.h; simpa using this) rfl hz.h (.head _ _) hn), hq⟩⟩
instance (priority := 950) {t : TypeId} {Y : List RY} {i j : Nat} [hp : Ag P t] [hz : Sz P t 8] [hf : FamL L Y R] : Re P c L (.load t (.pointer (eA (gt Y i).1.1 (j * (8 + 1))))) (fun q => Vc (i < Y.length ∧ j < (gt Y i).2.l.length) (q (.agg (pktV (gt (gt Y i).2.l j)).toArray))) :=
  ⟨fun E d op ty pos af g hs q hq => by
    cases hs with | load e1 =>
    obtain ⟨⟨hi, hj⟩, hq⟩ := hq
    exact ⟨_, D.impL (famL_at hf.h hi) (D.ldEA e1 hp.h hz.h (.head _ _) (flat_elem (f := pktV) (k := 8 + 1) (fun _ => rfl) (gt_get hj)) rfl), hq⟩⟩
instance (priority := 940) {t : TypeId} {Y : List RY} {i j o : Nat} {v : Value} [hp : Pl P t] [hf : FamL L Y R] [hg : GL (pktV (gt (gt Y i).2.l j)) o v] : Re P c L (.load t (.pointer (eA (gt Y i).1.1 (j * (8 + 1) + o)))) (fun q => Vc (i < Y.length ∧ j < (gt Y i).2.l.length) (q v)) :=
  ⟨fun E d op ty pos af g hs q hq => by
    cases hs with | load e1 =>
    obtain ⟨⟨hi, hj⟩, hq⟩ := hq
    exact ⟨_, D.impL (famL_at hf.h hi) (D.ldE e1 hp.h (.head _ _) (flat_elem (f := pktV) (k := 8 + 1) (fun _ => rfl) (gt_get hj) o v hg.h)), hq⟩⟩
variable {K : List Assn}
instance {t : TypeId} {Y : List RY} {i o : Nat} [h : FamL L Y R] : LkA (.load t (.pointer (eA (gt Y i).1.1 o))) L (famL Y) R := ⟨h.h⟩
instance {t : TypeId} {Y : List RY} {i n m : Nat} {x : Value} [h : FamL L Y R] : LkA (.indexAddr t (.slice (gt Y i).1.1 n m) x) L (famL Y) R := ⟨h.h⟩
instance {t : TypeId} {Y : List RY} {i o k : Nat} [h : FamL L Y R] : LkA (.fieldAddr t (.pointer (eA (gt Y i).1.1 o)) k) L (famL Y) R := ⟨h.h⟩
instance (priority := 1100) {t : TypeId} {Y : List RY} {i o : Nat} : LkB (.load t (.pointer (eA (gt Y i).1.1 o))) (lk (famL Y) :: K) (famL Y) := ⟨_, .head _ _⟩
instance (priority := 1100) {t : TypeId} {Y : List RY} {i n m : Nat} {x : Value} : LkB (.indexAddr t (.slice (gt Y i).1.1 n m) x) (lk (famL Y) :: K) (famL Y) := ⟨_, .head _ _⟩
instance (priority := 1100) {t : TypeId} {Y : List RY} {i o k : Nat} : LkB (.fieldAddr t (.pointer (eA (gt Y i).1.1 o)) k) (lk (famL Y) :: K) (famL Y) := ⟨_, .head _ _⟩
end
theorem drop_row (r most life : Nat) (Y : List RY) (a : Option Addr) (k i : Nat) (hi : i < Y.length) (hn : Y.length < 1000000) : Sat Try.prog 30 [.pointer (some ⟨r, 0, none⟩), .int .i64 (i : Nat)] [row 34 r [.int .i64 most, .int .u64 life, .slice a Y.length k], Pw.sl 74 (1 + 1) (.slice a Y.length k) Y.length (Y.flatMap ptrS)] (fun u L' => ∃ a2 k2, u = .tuple #[] ∧ L' = [row 34 r [.int .i64 most, .int .u64 life, .slice a2 (Y.eraseIdx i).length k2], Pw.sl 74 (1 + 1) (.slice a2 (Y.eraseIdx i).length k2) (Y.eraseIdx i).length ((Y.eraseIdx i).flatMap ptrS)]) :=
  Sat.imp (Imp.pull (.tail (.head _ _)) (Imp.pull (.head _ _) (Imp.refl _))) (drop30 r most life Y a k i hi hn)
instance {L R1 R : List Assn} {r most life n k i : Nat} {a : Option Addr} {Y : List RY} {x : Int} [h1 : RowDel L r 34 [.int .i64 (most : Nat), .int .u64 (life : Nat), .slice a n k] R1] [h2 : SlAt R1 (.slice a n k) 74 (1 + 1) n (Y.flatMap ptrS) R] [hx : Nn x i] : FnR Try.prog 30 [.pointer (some ⟨r, 0, none⟩), .int .i64 x] L (fun kk => Vc (n = Y.length ∧ i < Y.length ∧ Y.length < 1000000) (∀ a2 k2, kk (.tuple #[]) (row 34 r [.int .i64 (most : Nat), .int .u64 (life : Nat), .slice a2 (Y.eraseIdx i).length k2] :: Pw.sl 74 (1 + 1) (.slice a2 (Y.eraseIdx i).length k2) (Y.eraseIdx i).length ((Y.eraseIdx i).flatMap ptrS) :: R))) :=
  ⟨fun kk h => ⟨_, R, _, by rw [hx.h]; exact drop_row r most life Y a k i h.l.2.1 h.l.2.2, by obtain ⟨⟨rfl, _⟩, _⟩ := h; exact .cons h1.h (.cons h2.h (.nil _)), fun v L' hq => by obtain ⟨a2, k2, e1, e2⟩ := hq; rw [e1, e2]; exact h.r a2 k2⟩⟩
theorem Imp.pullL {X Y : List RY} {L L' R : List Assn} (h : Del (famL X) L R) (hs : Y.Sublist X) (i : Imp R L') : Imp L (famL Y :: L') := (Imp.pull h (Imp.refl R)).trans ((famL_sub hs).trans (fun f hf => SLh.cons (fun g hg => i g hg) hf))
theorem whole33 (r most life : Nat) (Y : List RY) (a : Option Addr) (k i : Nat) (hi : i < Y.length) (hn : Y.length < 1000000) (h0 : 0 < (gt Y i).2.l.length) (hnl : (gt Y i).2.l.length < 100000) (hall : ∀ q ∈ (gt Y i).2.l, q.ok) (hs : ((gt Y i).2.l.flatMap (·.data)).length < 1000000000) :
    Sat Try.prog 33 [.pointer (some ⟨r, 0, none⟩), .int .i64 (i : Nat)] [row 34 r [.int .i64 most, .int .u64 life, .slice a (Y).length k], Pw.sl 74 (1 + 1) (.slice a (Y).length k) (Y).length ((Y).flatMap ptrS), famL Y] (fun u L' => ∃ a2 k2, u = asResult [.agg (pktV ((wholeE (gt Y i).2.l).getD zP)).toArray, .bool (wholeE (gt Y i).2.l).isSome, .int .i64 (0 : Nat)] ∧ L' = [row 34 r [.int .i64 most, .int .u64 life, .slice a2 ((if (wholeE (gt Y i).2.l).isSome then Y.eraseIdx i else Y)).length k2], Pw.sl 74 (1 + 1) (.slice a2 ((if (wholeE (gt Y i).2.l).isSome then Y.eraseIdx i else Y)).length k2) ((if (wholeE (gt Y i).2.l).isSome then Y.eraseIdx i else Y)).length (((if (wholeE (gt Y i).2.l).isSome then Y.eraseIdx i else Y)).flatMap ptrS), famL (if (wholeE (gt Y i).2.l).isSome then Y.eraseIdx i else Y)]) := by
  all_goals
    refine Sat.enter Try.func33 rfl Try.ntmps33 rfl (fun c R => ?_)
    try simp only [List.cons_append, List.nil_append]
    repeat' (first
      | (refine T.atB 0 ?_; obtain ⟨b4, hb4⟩ : ∃ x, x = b := ⟨_, rfl⟩; subst hb4; refine T.lpa 0 [(0, _), (1, _), (4, _), (7, _)] (0 : Nat) (fun n => [(8, str (cumE (gt Y i).2.l n)), (9, .int .i64 (n : Nat))]) (fun _ => []) (fun n => n ≤ (gt Y i).2.l.length ∧ ∀ j, j < n → plE (gt (gt Y i).2.l j) = (cumE (gt Y i).2.l j).length) (fun n => (gt Y i).2.l.length - n) ⟨Nat.zero_le _, fun j hj => absurd hj (Nat.not_lt_zero j)⟩ ?_; rintro n g ⟨hn_, hj⟩; have hq : n < (gt Y i).2.l.length → (gt (gt Y i).2.l n).ok := (fun h => hall _ (gt_memP h)); have hcl := cumE_le (gt Y i).2.l n; have hq2 := fun h => (hq h).data; simp only [List.cons_append, List.nil_append, appR])
      | (refine TQ.atL ?_; rw [← cumE_next (by assumption)]; refine TQ.rda (n + 1 : Nat) ⟨by omega, fun j h => (by rcases Nat.lt_or_eq_of_le (Nat.le_of_lt_succ h) with h | h; exact hj j h; rw [h]; exact Decidable.not_not.1 (by assumption))⟩ ?_)
      | (refine T.atR 9 ?_; obtain rfl : n = (gt Y i).2.l.length := (by omega); rw [cumE_all])
      | exact hq (by assumption)
      | (rw [whole_no (by assumption) (by assumption)]; exact Fini.of ⟨_, _, rfl, rfl⟩ (by repeat first | exact Imp.refl _ | (apply Imp.pull; focus ((repeat first | exact Del.head _ _ | apply Del.tail); done)) | apply Imp.drop))
      | (rw [whole_more (by assumption)]; exact Fini.of ⟨_, _, rfl, rfl⟩ (by repeat first | exact Imp.refl _ | (apply Imp.pull; focus ((repeat first | exact Del.head _ _ | apply Del.tail); done)) | apply Imp.drop))
      | (rw [whole_yes hj (by assumption)]; exact Fini.of ⟨_, _, rfl, rfl⟩ (by repeat first | exact Imp.refl _ | (apply Imp.pull; focus ((repeat first | exact Del.head _ _ | apply Del.tail); done)) | (refine Imp.pullL (by repeat first | exact Del.head _ _ | apply Del.tail) (List.eraseIdx_sublist _ _) ?_) | apply Imp.drop))
      | refine T.pk 11 [22, 23] (.p 0 (.p 4 (.p 8 (.p 12 (.p 16 (.p 20 (.g 1 (.g 2 (.g 3 (.g 5 (.g 6 (.g 7 (.g 9 (.g 10 (.g 11 (.g 13 (.g 14 (.g 15 (.g 17 (.g 18 (.g 19 (.p 21 (.n 22 (.n 23 .fin)))))))))))))))))))))))) ?_
      | refine And.intro (fun hc => ?_) (fun hc => ?_)
      | refine And.intro ?_ ?_
      | intro b
      | refine stk ?_
      | refine stp ?_
      | refine TQ.finC ?_
      | refine TQ.finC2 ?_
      | refine TQ.finC3 ?_
      | refine ⟨fun hc => ?_, fun hc => ?_⟩
      | refine Ei.f ?_
      | refine ⟨?_, ?_⟩
      | intro b
      | exact absurd rfl hc
      | exact absurd hc (by decide)
      | exact absurd rfl hc
      | exact absurd hc (by decide)
      | omega
      | (dsimp only; omega)
      | fail)

end Go.Proofs.Ytmhkmcoobpfkcaa


namespace Go.Proofs.Ytmhkmcoobpfkcaa
open Go Pw
set_option maxRecDepth 20000
set_option maxHeartbeats 4000000
set_option synthInstance.maxHeartbeats 400000
set_option synthInstance.maxSize 4000
set_option maxHeartbeats 4000000

theorem bad_fam (p : Pkt) (Y : List RY) (i : Nat) (hi : i < Y.length) (hp : p.ok) (hall : ∀ q ∈ (gt Y i).2.l, q.ok) (hn : (gt Y i).2.l.length < 1000000) : Sat Try.prog 34 [.slice (gt Y i).1.1 (gt Y i).2.l.length (gt Y i).1.2, .agg (pktV p).toArray] [famL Y] (fun u L' => u = .bool ((gt Y i).2.l.any (parE p)) ∧ L' = [famL Y]) :=
  Sat.imp (famL_at (Del.head _ _) hi) (((bad34 p (gt Y i).2.l (gt Y i).1.1 (gt Y i).1.2 hp hall hn).frame (F := [famL (Y.take i ++ Y.drop (i + 1))])).post (by
    rintro u L' ⟨_, ⟨rfl, rfl⟩, rfl⟩
    refine ⟨[famL Y], ?_, rfl, rfl⟩
    conv => rhs; rw [split_gt hi]
    exact famL_shut))
instance {L R : List Assn} {p : Pkt} {us : List Value} {Y : List RY} {i n m : Nat} [hf : FamL L Y R] [hu : InvL pktV us p] : FnR Try.prog 34 [.slice (gt Y i).1.1 n m, .agg us.toArray] L (fun kk => Vc (i < Y.length ∧ n = (gt Y i).2.l.length ∧ m = (gt Y i).1.2 ∧ p.ok ∧ (∀ q ∈ (gt Y i).2.l, q.ok) ∧ (gt Y i).2.l.length < 1000000) (kk (.bool ((gt Y i).2.l.any (parE p))) (famL Y :: R))) :=
  ⟨fun kk h => ⟨[famL Y], R, fun u L' => u = .bool ((gt Y i).2.l.any (parE p)) ∧ L' = [famL Y], by obtain ⟨⟨hi, rfl, rfl, hp, ha, hn⟩, _⟩ := h; rw [← hu.h]; exact bad_fam p Y i hi hp ha hn, .cons hf.h (.nil _), fun v L' hq => by rw [hq.1, hq.2]; exact h.r⟩⟩
instance {L R1 R2 R : List Assn} {r most life n k i : Nat} {a : Option Addr} {Y : List RY} {x : Int} [h1 : RowDel L r 34 [.int .i64 (most : Nat), .int .u64 (life : Nat), .slice a n k] R1] [h2 : SlAt R1 (.slice a n k) 74 (1 + 1) n (Y.flatMap ptrS) R2] [h3 : FamL R2 Y R] [hx : Nn x i] : FnR Try.prog 33 [.pointer (some ⟨r, 0, none⟩), .int .i64 x] L (fun kk => Vc (n = Y.length ∧ i < Y.length ∧ Y.length < 1000000 ∧ 0 < (gt Y i).2.l.length ∧ (gt Y i).2.l.length < 100000 ∧ (∀ q ∈ (gt Y i).2.l, q.ok) ∧ ((gt Y i).2.l.flatMap (·.data)).length < 1000000000) (∀ a2 k2, kk (asResult [.agg (pktV ((wholeE (gt Y i).2.l).getD zP)).toArray, .bool (wholeE (gt Y i).2.l).isSome, .int .i64 (0 : Nat)]) (row 34 r [.int .i64 most, .int .u64 life, .slice a2 ((if (wholeE (gt Y i).2.l).isSome then Y.eraseIdx i else Y)).length k2] :: Pw.sl 74 (1 + 1) (.slice a2 ((if (wholeE (gt Y i).2.l).isSome then Y.eraseIdx i else Y)).length k2) ((if (wholeE (gt Y i).2.l).isSome then Y.eraseIdx i else Y)).length (((if (wholeE (gt Y i).2.l).isSome then Y.eraseIdx i else Y)).flatMap ptrS) :: famL (if (wholeE (gt Y i).2.l).isSome then Y.eraseIdx i else Y) :: R))) :=
  ⟨fun kk h => ⟨_, R, _, by rw [hx.h]; exact whole33 r most life Y a k i h.l.2.1 h.l.2.2.1 h.l.2.2.2.1 h.l.2.2.2.2.1 h.l.2.2.2.2.2.1 h.l.2.2.2.2.2.2, by obtain ⟨⟨rfl, _⟩, _⟩ := h; exact .cons h1.h (.cons h2.h (.cons h3.h (.nil _))), fun v L' hq => by obtain ⟨a2, k2, e1, e2⟩ := hq; rw [e1, e2]; exact h.r a2 k2⟩⟩
/-! The reference's state -/
def refL (r most life : Nat) (z : List RY × (Option Addr × Nat)) : List Assn := [row 34 r [.int .i64 most, .int .u64 life, .slice z.2.1 (z.1).length z.2.2], Pw.sl 74 (1 + 1) (.slice z.2.1 (z.1).length z.2.2) (z.1).length ((z.1).flatMap ptrS), famL z.1]
def refA (r most life : Nat) (S : List PSet) : Assn := exA (fun z : List RY × (Option Addr × Nat) => z.1.map (·.2) = S) (refL r most life)
theorem Imp.ref {r most life n k : Nat} {a : Option Addr} {S : List PSet} {Y : List RY} {L R : List Assn} (hY : Y.map (·.2) = S) (hn : Y.length = n) (h : Imp L (row 34 r [.int .i64 most, .int .u64 life, .slice a n k] :: Pw.sl 74 (1 + 1) (.slice a n k) n (Y.flatMap ptrS) :: famL Y :: R)) : Imp L (refA r most life S :: R) := by
  subst hn
  exact Imp.shutA (p := fun z : List RY × (Option Addr × Nat) => z.1.map (·.2) = S) (Ls := refL r most life) (Y, a, k) hY h
/-! Lists -/
theorem exp_no {S : List PSet} {n now : Nat} (h : n < S.length) (ht : (gt S n).til ≤ now) : expE (S.take (n + 1)) now = expE (S.take n) now := by
  unfold expE
  rw [take_gt h, List.filter_append]
  simp; omega
theorem exp_yes {S : List PSet} {n now : Nat} (h : n < S.length) (ht : now < (gt S n).til) : expE (S.take (n + 1)) now = expE (S.take n) now ++ [gt S n] := by
  unfold expE
  rw [take_gt h, List.filter_append]
  simp [ht]
def posE (S : List PSet) (now n : Nat) : Nat := (expE (S.take n) now).length
theorem pos_no {S : List PSet} {n now : Nat} (h : n < S.length) (ht : (gt S n).til ≤ now) : posE S now n = posE S now (n + 1) := by unfold posE; rw [exp_no h ht]
theorem pos_yes {S : List PSet} {n now : Nat} (h : n < S.length) (ht : now < (gt S n).til) : posE S now n + 1 = posE S now (n + 1) := by unfold posE; rw [exp_yes h ht, List.length_append]; rfl
theorem map_len {S : List PSet} {Y : List RY} {n now : Nat} (hY : Y.map (·.2) = expE (S.take n) now ++ S.drop n) : Y.length = posE S now n + (S.length - n) := by
  have := congrArg List.length hY
  rw [List.length_map, List.length_append, List.length_drop] at this
  exact this
theorem gt_map {Y : List RY} {i : Nat} (h : i < Y.length) : gt (Y.map (·.2)) i = (gt Y i).2 := by
  unfold gt
  simp [List.getD_eq_getElem?_getD, List.getElem?_eq_getElem h]
theorem gt_pos {S : List PSet} {Y : List RY} {n now : Nat} (hY : Y.map (·.2) = expE (S.take n) now ++ S.drop n) (h : n < S.length) : (gt Y (posE S now n)).2 = gt S n := by
  have hl := map_len hY
  rw [← gt_map (by omega), hY]
  unfold gt posE
  rw [List.getD_eq_getElem?_getD, List.getElem?_append_right (Nat.le_refl _), Nat.sub_self, drop_gt h]
  simp [gt]
theorem map_er {Y : List RY} {i : Nat} : (Y.eraseIdx i).map (·.2) = (Y.map (·.2)).eraseIdx i := by
  rw [List.eraseIdx_eq_take_drop_succ, List.eraseIdx_eq_take_drop_succ, List.map_append, List.map_take, List.map_drop]
theorem er_pos {S : List PSet} {Y : List RY} {n now : Nat} (hY : Y.map (·.2) = expE (S.take n) now ++ S.drop n) (h : n < S.length) (ht : (gt S n).til ≤ now) : (Y.eraseIdx (posE S now n)).map (·.2) = expE (S.take (n + 1)) now ++ S.drop (n + 1) := by
  rw [map_er, hY]
  unfold posE
  rw [List.eraseIdx_append_of_length_le (Nat.le_refl _), Nat.sub_self, drop_gt h, exp_no h ht]; rfl
theorem keep_pos {S : List PSet} {Y : List RY} {n now : Nat} (hY : Y.map (·.2) = expE (S.take n) now ++ S.drop n) (h : n < S.length) (ht : now < (gt S n).til) : Y.map (·.2) = expE (S.take (n + 1)) now ++ S.drop (n + 1) := by
  rw [hY, exp_yes h ht, drop_gt h]; simp
theorem gt_mem2 {α : Type} [Inhabited α] {l : List α} {i : Nat} (h : i < l.length) : gt l i ∈ l := List.mem_of_getElem? (gt_get h)
/-- At which place a key stands. -/
def atI (Y : List RY) (k : Ky) : Nat → Int
  | 0 => -1
  | i + 1 => if (gt Y i).2.key = k then (i : Int) else atI Y k i
theorem at_cases {Y : List RY} {k : Ky} (hn : SsOk (Y.map (·.2))) : (atI Y k Y.length = -1 ∧ findS (Y.map (·.2)) k = none) ∨ ∃ j, j < Y.length ∧ atI Y k Y.length = (j : Nat) ∧ findS (Y.map (·.2)) k = some (gt Y j).2 ∧ (gt Y j).2.key = k := by
  have h1 : ∀ n, n ≤ Y.length → (atI Y k n = -1 ∧ ∀ j, j < n → (gt Y j).2.key ≠ k) ∨ ∃ j, j < n ∧ atI Y k n = (j : Nat) ∧ (gt Y j).2.key = k := by
    intro n
    induction n with
    | zero => intro _; exact .inl ⟨rfl, fun j hj => absurd hj (Nat.not_lt_zero _)⟩
    | succ n ih =>
      intro hle
      by_cases hk : (gt Y n).2.key = k
      · exact .inr ⟨n, Nat.lt_succ_self _, if_pos hk, hk⟩
      · have e : atI Y k (n + 1) = atI Y k n := if_neg hk
        rw [e]
        rcases ih (by omega) with ⟨h1, h2⟩ | ⟨j, h1, h2, h3⟩
        · refine .inl ⟨h1, fun j hj => ?_⟩
          rcases Nat.lt_or_eq_of_le (Nat.le_of_lt_succ hj) with h | h
          · exact h2 j h
          · rw [h]; exact hk
        · exact .inr ⟨j, by omega, h2, h3⟩
  rcases h1 _ (Nat.le_refl _) with ⟨h2, h3⟩ | ⟨j, h2, h3, h4⟩
  · refine .inl ⟨h2, ?_⟩
    unfold findS
    rw [List.find?_eq_none]
    intro x hx
    obtain ⟨y, hy, rfl⟩ := List.mem_map.1 hx
    obtain ⟨j, hj, rfl⟩ := List.getElem_of_mem hy
    have := h3 j hj
    unfold gt at this
    simpa [List.getD_eq_getElem?_getD, List.getElem?_eq_getElem hj] using this
  · refine .inr ⟨j, h2, h3, ?_, h4⟩
    have hm : (gt Y j).2 ∈ Y.map (·.2) := List.mem_map_of_mem (f := (·.2)) (gt_mem2 h2)
    cases hf : findS (Y.map (·.2)) k with
    | none =>
      unfold findS at hf
      rw [List.find?_eq_none] at hf
      exact absurd (by simpa using h4) (hf _ hm)
    | some x =>
      obtain ⟨hx, hk⟩ := find_mem hf
      rw [key_one hn hx hm (hk.trans h4.symm)]
theorem del_none {S : List PSet} {k : Ky} (h : findS S k = none) : delS S k = S := by
  unfold delS
  rw [List.filter_eq_self]
  intro x hx
  unfold findS at h
  rw [List.find?_eq_none] at h
  simpa using h x hx
theorem del_at {Y : List RY} {k : Ky} {j : Nat} (hn : SsOk (Y.map (·.2))) (hj : j < Y.length) (hk : (gt Y j).2.key = k) : (Y.eraseIdx j).map (·.2) = delS (Y.map (·.2)) k := by
  have e := split_gt hj
  have hb : ∀ y ∈ Y.take j ++ Y.drop (j + 1), y.2.key ≠ k := by
    have hnd := hn.nd
    rw [List.map_map, e] at hnd
    have hp := (List.perm_middle.map _).nodup_iff.1 hnd
    rw [List.map_cons, List.nodup_cons] at hp
    intro y hy he
    exact hp.1 (by show (gt Y j).2.key ∈ _; rw [hk, ← he]; exact List.mem_map_of_mem (f := PSet.key ∘ (·.2)) hy)
  rw [List.eraseIdx_eq_take_drop_succ]
  conv => rhs; rw [e]
  unfold delS
  simp only [List.map_append, List.map_cons]
  rw [List.filter_append, List.filter_cons, if_neg (by simp [hk]), List.filter_eq_self.2, List.filter_eq_self.2]
  · intro x hx
    obtain ⟨y, hy, rfl⟩ := List.mem_map.1 hx
    simpa using hb y (List.mem_append_right _ hy)
  · intro x hx
    obtain ⟨y, hy, rfl⟩ := List.mem_map.1 hx
    simpa using hb y (List.mem_append_left _ hy)
theorem put_at {Y : List RY} {k : Ky} {j : Nat} {y : RY} (hn : SsOk (Y.map (·.2))) (hj : j < Y.length) (hk : (gt Y j).2.key = k) (hf : findS (Y.map (·.2)) k = some (gt Y j).2) : (Y.set j y).map (·.2) = putS (Y.map (·.2)) k y.2 := by
  have e := split_gt hj
  have hb : ∀ y ∈ Y.take j ++ Y.drop (j + 1), y.2.key ≠ k := by
    have hnd := hn.nd
    rw [List.map_map, e] at hnd
    have hp := (List.perm_middle.map _).nodup_iff.1 hnd
    rw [List.map_cons, List.nodup_cons] at hp
    intro y hy he
    exact hp.1 (by show (gt Y j).2.key ∈ _; rw [hk, ← he]; exact List.mem_map_of_mem (f := PSet.key ∘ (·.2)) hy)
  have hs : Y.set j y = Y.take j ++ y :: Y.drop (j + 1) := by
    rw [List.set_eq_take_append_cons_drop, if_pos hj]
  unfold putS
  rw [hf, hs]
  dsimp only
  conv => rhs; rw [e]
  simp only [List.map_append, List.map_cons]
  rw [if_pos hk]
  congr 1
  · rw [List.map_map]
    exact List.map_congr_left fun z hz => (if_neg (hb z (List.mem_append_left _ hz))).symm
  · congr 1
    rw [List.map_map]
    exact List.map_congr_left fun z hz => (if_neg (hb z (List.mem_append_right _ hz))).symm
theorem put_same {Y : List RY} {k : Ky} {j : Nat} (hn : SsOk (Y.map (·.2))) (hj : j < Y.length) (hk : (gt Y j).2.key = k) (hf : findS (Y.map (·.2)) k = some (gt Y j).2) : Y.map (·.2) = putS (Y.map (·.2)) k (gt Y j).2 := by
  rw [← put_at hn hj hk hf (y := gt Y j)]
  congr 1
  rw [List.set_eq_take_append_cons_drop, if_pos hj]; exact split_gt hj
/-! Putting in, as the reference does it -/
def ieS (p : Pkt) (s : List Pkt × Bool) (q : Pkt) : List Pkt × Bool := if s.2 = false ∧ plE p < plE q then (s.1 ++ [p] ++ [q], true) else (s.1 ++ [q], s.2)
def iE (p : Pkt) (l : List Pkt) : Nat → List Pkt × Bool
  | 0 => ([], false)
  | n + 1 => ieS p (iE p l n) (gt l n)
theorem iE_fold (p : Pkt) (l : List Pkt) : ∀ n, n ≤ l.length → iE p l n = (l.take n).foldl (ieS p) ([], false)
  | 0, _ => rfl
  | n + 1, h => by rw [take_gt (by omega), List.foldl_append, ← iE_fold p l n (by omega)]; rfl
theorem ie_true (p : Pkt) : ∀ (l o : List Pkt), l.foldl (ieS p) (o, true) = (o ++ l, true)
  | [], o => by simp
  | q :: l, o => by
    rw [List.foldl_cons]
    have : ieS p (o, true) q = (o ++ [q], true) := if_neg (by simp)
    rw [this, ie_true p l]; simp
theorem ie_false (p : Pkt) : ∀ (l o : List Pkt), (if (l.foldl (ieS p) (o, false)).2 then (l.foldl (ieS p) (o, false)).1 else (l.foldl (ieS p) (o, false)).1 ++ [p]) = o ++ insE p l
  | [], o => rfl
  | q :: l, o => by
    rw [List.foldl_cons]
    unfold insE
    by_cases h : plE p < plE q
    · have : ieS p (o, false) q = (o ++ [p] ++ [q], true) := if_pos ⟨rfl, h⟩
      rw [this, ie_true, if_pos h]; simp
    · have : ieS p (o, false) q = (o ++ [q], false) := if_neg (fun hh => h hh.2)
      rw [this, ie_false p l, if_neg h]; simp
theorem ie_end {p : Pkt} {l : List Pkt} : (if (iE p l l.length).2 then (iE p l l.length).1 else (iE p l l.length).1 ++ [p]) = insE p l := by
  rw [iE_fold p l _ (Nat.le_refl _), List.take_length, ie_false]; rfl
theorem ie_len (p : Pkt) (l : List Pkt) : ∀ n, (iE p l n).1.length ≤ n + (if (iE p l n).2 then 1 else 0)
  | 0 => Nat.le_refl _
  | n + 1 => by
    have := ie_len p l n
    unfold iE ieS
    split
    · rename_i h; rw [h.1] at this; simp at this ⊢; omega
    · simp; omega
theorem ie_yes {p : Pkt} {l : List Pkt} {n : Nat} (h1 : (iE p l n).2 = false) (h2 : plE p < plE (gt l n)) : iE p l (n + 1) = ((iE p l n).1 ++ [p] ++ [gt l n], true) := if_pos ⟨h1, h2⟩
theorem ie_no {p : Pkt} {l : List Pkt} {n : Nat} (h : ¬ ((iE p l n).2 = false ∧ plE p < plE (gt l n))) : iE p l (n + 1) = ((iE p l n).1 ++ [gt l n], (iE p l n).2) := if_neg h
theorem mayE' (p : Pkt) : mayE p = if p.data.length = 0 ∨ (p.more = true ∧ p.data.length % 8 ≠ 0) then 8 else if 8192 < enE p then 4 else 0 := by
  unfold mayE
  simp only [List.length_eq_zero_iff]

end Go.Proofs.Ytmhkmcoobpfkcaa


namespace Go.Proofs.Ytmhkmcoobpfkcaa
open Go Pw
set_option maxRecDepth 20000
set_option maxHeartbeats 4000000
set_option synthInstance.maxHeartbeats 400000
set_option synthInstance.maxSize 4000
set_option maxHeartbeats 16000000

theorem pos_le (S : List PSet) (now n : Nat) : posE S now n ≤ n := by
  unfold posE expE
  refine Nat.le_trans (List.length_filter_le _ _) ?_
  rw [List.length_take]; omega
theorem vI' {x y : Int} (e : x = y) : Value.int .i64 x = Value.int .i64 y := by rw [e]
theorem vN' {x y : Nat} (e : x = y) : Value.int .i64 (x : Int) = Value.int .i64 (y : Int) := by rw [e]
theorem at_yes {Y : List RY} {k : Ky} {i : Nat} (h : keyE (gt (gt Y i).2.l 0) = k) : ((i : Nat) : Int) = atI Y k (i + 1) := (if_pos h).symm
theorem at_no {Y : List RY} {k : Ky} {i : Nat} (h : ¬ keyE (gt (gt Y i).2.l 0) = k) : atI Y k i = atI Y k (i + 1) := (if_neg h).symm
theorem fin_dup {S : List PSet} {k : Ky} {x : PSet} {p : Pkt} (h : x.l.any (dupE p) = true) (hw : wholeE x.l = none) : finS S k x p = (putS S k x, zP, false, 0) := by
  rw [fin_no (by rw [add_d h]; simp) (by rw [add_d h]; exact hw), add_d h]
theorem may_len {p : Pkt} (h : ¬ mayE p ≠ 0) : p.data.length ≤ 8192 := by
  rw [mayE'] at h
  split at h
  · exact absurd (by decide) h
  · split at h
    · exact absurd (by decide) h
    · unfold enE at *; omega
theorem fin_over {S : List PSet} {k : Ky} {x : PSet} {p : Pkt} (h1 : x.l.any (dupE p) = false) (h2 : x.l.any (parE p) = true) : finS S k x p = (delS S k, zP, false, 181) := by
  rw [fin_err (by rw [add_o h1 h2]; exact (by decide : (181 : Nat) ≠ 0)), add_o h1 h2]
theorem finAt {c : Ctx} {L R : List Assn} {B : Value → List Assn → Prop} {v : Value} (h : Fini c L R B v) : Fini c L R B v := h
instance {l : List RY} {i n k : Nat} {a : Option Addr} : SetV (l.flatMap ptrS) (i * (1 + 1) + 0) (.slice a n k) ((l.flatMap ptrS).set (i * (1 + 1) + 0) (.slice a n k)) (i < l.length) := ⟨fun h => ⟨rfl, by rw [flat_length (f := ptrS) (sz := 1 + 1) (fun _ => rfl)]; omega⟩⟩
theorem gt_last {Y : List RY} {y : RY} : gt (Y ++ [y]) ((Y ++ [y]).length - 1) = y := by
  unfold gt
  rw [List.getD_eq_getElem?_getD, List.length_append, List.length_singleton, Nat.add_sub_cancel, List.getElem?_append_right (Nat.le_refl _), Nat.sub_self]; rfl
theorem er_last {Y : List RY} {y : RY} : (Y ++ [y]).eraseIdx ((Y ++ [y]).length - 1) = Y := by
  rw [List.length_append, List.length_singleton, Nat.add_sub_cancel, List.eraseIdx_append_of_length_le (Nat.le_refl _), Nat.sub_self]; simp
abbrev newY (Y : List RY) (q : Nat) (p : Pkt) (t : Nat) : List RY := Y ++ [((some ⟨q, 0, none⟩, 1), ⟨[p], t⟩)]
theorem fold_new {r most life q k t : Nat} {a : Option Addr} {Y : List RY} {p : Pkt} {R : List Assn} : Imp (row 34 r [.int .i64 most, .int .u64 life, .slice a (Y.length + 1) k] :: Pw.sl 74 (1 + 1) (.slice a (Y.length + 1) k) (Y.length + 1) (Y.flatMap ptrS ++ [.slice (some ⟨q, 0, none⟩) 1 1, .int .u64 (t : Nat)]) :: Pw.sl 38 (8 + 1) (.slice (some ⟨q, 0, none⟩) 1 1) 1 (pktV p) :: famL Y :: R)
    (row 34 r [.int .i64 most, .int .u64 life, .slice a (newY Y q p t).length k] :: Pw.sl 74 (1 + 1) (.slice a (newY Y q p t).length k) (newY Y q p t).length ((newY Y q p t).flatMap ptrS) :: famL (newY Y q p t) :: R) := by
  have e1 : (newY Y q p t).length = Y.length + 1 := by simp
  have e2 : (newY Y q p t).flatMap ptrS = Y.flatMap ptrS ++ [.slice (some ⟨q, 0, none⟩) 1 1, .int .u64 (t : Nat)] := by simp
  rw [e1, e2]
  refine Imp.pull (.head _ _) (Imp.pull (.head _ _) ?_)
  have := famL_shut (A := Y) (B := []) (y := ((some ⟨q, 0, none⟩, 1), ⟨[p], t⟩)) (R := R)
  rw [List.append_nil] at this
  exact this
theorem fin_form {S : List PSet} {k : Ky} {x x' : PSet} {p : Pkt} (h : addE x p = (x', 0)) : finS S k x p = (if (wholeE x'.l).isSome then delS S k else putS S k x', (wholeE x'.l).getD zP, (wholeE x'.l).isSome, 0) := by
  cases hw : wholeE x'.l with
  | some w => rw [fin_yes (by rw [h]; simp) (by rw [h]; exact hw)]; rfl
  | none => rw [fin_no (by rw [h]; simp) (by rw [h]; exact hw), h]; rfl
theorem ifm {c : Bool} {A B : List RY} {X Z : List PSet} (h1 : A.map (·.2) = X) (h2 : B.map (·.2) = Z) : (if c then A else B).map (·.2) = if c then X else Z := by
  cases c <;> assumption
theorem put_new {S : List PSet} {k : Ky} {y : PSet} (h : findS S k = none) : putS S k y = S ++ [y] := by unfold putS; rw [h]
theorem set_flat {Y : List RY} {j n k : Nat} {a : Option Addr} {l : List Pkt} (hj : j < Y.length) (hn : l.length = n) : (Y.flatMap ptrS).set (j * (1 + 1) + 0) (.slice a n k) = (Y.set j ((a, k), ⟨l, (gt Y j).2.til⟩)).flatMap ptrS := by
  subst hn
  exact flat_set1 (f := ptrS) (k := 1 + 1) (fun _ => rfl) Y hj (by omega) rfl
theorem gt_set {Y : List RY} {j : Nat} {y : RY} (hj : j < Y.length) : gt (Y.set j y) j = y := by
  unfold gt; rw [List.getD_eq_getElem?_getD, List.getElem?_set_self hj]; rfl
theorem er_set {Y : List RY} {j : Nat} {y : RY} : (Y.set j y).eraseIdx j = Y.eraseIdx j := by
  rw [List.eraseIdx_set_eq]
theorem fold_set {r most life k n ka : Nat} {a b : Option Addr} {Y : List RY} {j : Nat} {l : List Pkt} {R : List Assn} (hj : j < Y.length) (hn : l.length = n) : Imp (row 34 r [.int .i64 most, .int .u64 life, .slice a Y.length k] :: Pw.sl 74 (1 + 1) (.slice a Y.length k) Y.length ((Y.flatMap ptrS).set (j * (1 + 1) + 0) (.slice b n ka)) :: Pw.sl 38 (8 + 1) (.slice b n ka) n (l.flatMap pktV) :: famL Y :: R)
    (row 34 r [.int .i64 most, .int .u64 life, .slice a (Y.set j ((b, ka), ⟨l, (gt Y j).2.til⟩)).length k] :: Pw.sl 74 (1 + 1) (.slice a (Y.set j ((b, ka), ⟨l, (gt Y j).2.til⟩)).length k) (Y.set j ((b, ka), ⟨l, (gt Y j).2.til⟩)).length ((Y.set j ((b, ka), ⟨l, (gt Y j).2.til⟩)).flatMap ptrS) :: famL (Y.set j ((b, ka), ⟨l, (gt Y j).2.til⟩)) :: R) := by
  rw [set_flat hj hn, List.length_set]
  subst hn
  refine Imp.pull (.head _ _) (Imp.pull (.head _ _) ?_)
  have hs : Y.set j ((b, ka), ⟨l, (gt Y j).2.til⟩) = Y.take j ++ ((b, ka), ⟨l, (gt Y j).2.til⟩) :: Y.drop (j + 1) := by
    rw [List.set_eq_take_append_cons_drop, if_pos hj]
  rw [hs]
  refine Imp.trans ?_ famL_shut
  refine Imp.pull (.head _ _) ?_
  refine (famL_at (.head _ _) hj).trans ?_
  exact Imp.drop (Imp.refl _)
theorem imp_ie0 {p : Pkt} {l : List Pkt} {L : List Assn} : Imp L (Pw.sl 38 (8 + 1) (.slice none (iE p l 0).1.length 0) (iE p l 0).1.length ((iE p l 0).1.flatMap pktV) :: L) := Imp.slN (Imp.refl _)
theorem len_snoc' (P : List Pkt) (q : Pkt) : P.length + 1 = (P ++ [q]).length := by simp
attribute [local irreducible] posE iE
theorem rtake15 (r most life : Nat) (S : List PSet) (p : Pkt) (now : Nat) (hS : SsOk S) (hp : p.ok) (hl : life ≤ 4294967296) (hm : most < 1000) (hln : S.length < 100000) :
    Sat Try.prog 15 [.pointer (some ⟨r, 0, none⟩), .agg (pktV p).toArray, .int .u64 now] [refA r most life S] (fun u L' => u = asResult [.agg (pktV (takeE most life S p now).2.1).toArray, .bool (takeE most life S p now).2.2.1, .int .i64 ((takeE most life S p now).2.2.2 : Nat)] ∧ L' = [refA r most life (takeE most life S p now).1]) := by
  refine Sat.openA1 ?_
  rintro ⟨Y, a, k⟩ hY
  dsimp only [refL] at *
  have hp6 := hp.off
  have hp7 := hp.data
  all_goals
    refine Sat.enter Try.func15 rfl Try.ntmps15 rfl (fun c R => ?_)
    try simp only [List.cons_append, List.nil_append]
    repeat' (first
      | (refine finAt ?_; rw [tk_late (by omega)]; exact Fini.of ⟨rfl, rfl⟩ (Imp.ref hY rfl (by repeat first | exact Imp.refl _ | (apply Imp.pull; focus ((repeat first | exact Del.head _ _ | apply Del.tail); done)) | apply Imp.drop)))
      | (refine T.atB 0 ?_; rename_i b4; obtain ⟨b6, hb6⟩ : ∃ x, x = b := ⟨_, rfl⟩; subst hb6; refine T.lpa 0 [(0, _), (2, _), (4, _), (6, _)] ((0, Y, (a, k)) : Nat × List RY × (Option Addr × Nat)) (fun z => [(9, .int .i64 (posE S now z.1 : Nat))]) (fun z => [row 34 r [.int .i64 most, .int .u64 life, .slice z.2.2.1 (z.2.1).length z.2.2.2], Pw.sl 74 (1 + 1) (.slice z.2.2.1 (z.2.1).length z.2.2.2) (z.2.1).length ((z.2.1).flatMap ptrS), famL z.2.1]) (fun z => z.1 ≤ S.length ∧ z.2.1.map (·.2) = expE (S.take z.1) now ++ S.drop z.1) (fun z => S.length - z.1) ⟨Nat.zero_le _, hY⟩ ?_ (hsl := ⟨vI' (by unfold posE; rfl), trivial⟩); rintro ⟨n, Y1, ⟨a1, k1⟩⟩ g ⟨hn, hY1⟩; dsimp only at hn hY1 ⊢; have hyl := map_len hY1; have hgp := gt_pos hY1; have hpl := pos_le S now n; simp only [List.cons_append, List.nil_append, appR])
      | (refine TQ.atL ?_; rename_i a3; refine TQ.rd ((n + 1, Y1.eraseIdx (posE S now n), (a3, b)) : Nat × List RY × (Option Addr × Nat)) rfl ⟨vN' (pos_no (by omega) (by rw [← hgp (by omega)]; assumption)), rfl, rfl, rfl, rfl, trivial⟩ ⟨by dsimp only; omega, er_pos hY1 (by omega) (by rw [← hgp (by omega)]; assumption)⟩ (by dsimp only; omega) (Ent.imp (by repeat first | exact Imp.refl _ | (apply Imp.pull; focus ((repeat first | exact Del.head _ _ | apply Del.tail); done)) | (refine Imp.pullL (by repeat first | exact Del.head _ _ | apply Del.tail) (List.eraseIdx_sublist _ _) ?_) | apply Imp.drop)))
      | (refine TQ.atL ?_; refine TQ.rd ((n + 1, Y1, (a1, k1)) : Nat × List RY × (Option Addr × Nat)) rfl ⟨vN' (pos_yes (by omega) (by rw [← hgp (by omega)]; omega)), rfl, rfl, rfl, rfl, trivial⟩ ⟨by dsimp only; omega, keep_pos hY1 (by omega) (by rw [← hgp (by omega)]; omega)⟩ (by dsimp only; omega) (Ent.imp (by repeat first | exact Imp.refl _ | (apply Imp.pull; focus ((repeat first | exact Del.head _ _ | apply Del.tail); done)) | apply Imp.drop)))
      | (refine T.atSR 8 ?_; obtain rfl : n = S.length := (by omega); rw [List.take_length, List.drop_length, List.append_nil] at hY1; have hSY := hS.exp (now := now); rw [← hY1] at hSY; clear hgp; refine T.cutR 8 (fun _ : Unit => [(0, .pointer (some ⟨r, 0, none⟩)), (2, .int .u64 now), (4, .pointer (some ⟨b4, 0, none⟩)), (6, .pointer (some ⟨b6, 0, none⟩)), (50, .bool (decide (p.more = false ∧ p.off = 0)))]) (fun _ => row 38 b4 (pktV p) :: row 38 b6 [.int .u32 0, .int .u32 0, .int .u8 0, .int .u8 0, .int .u16 0, .bool false, .bool false, .int .u16 0, .string { data := #[] }] :: row 34 r [.int .i64 most, .int .u64 life, .slice a1 (Y1).length k1] :: Pw.sl 74 (1 + 1) (.slice a1 (Y1).length k1) (Y1).length ((Y1).flatMap ptrS) :: famL Y1 :: R) (fun _ => True) ?_ (fun _ g _ => ?_))
      | (refine TQ.atC ?_; refine TQ.cn (() : Unit) rfl ⟨rfl, rfl, rfl, rfl, eqB (by first | (have h3 := ‹(!p.more) = true›; cases hm_ : p.more <;> simp_all only [Bool.not_true, Bool.not_false, true_and, false_and, decide_false, reduceCtorEq]) | (have h3 := ‹(!p.more) = false›; cases hm_ : p.more <;> simp [hm_] at h3 ⊢)), trivial⟩ trivial (Ent.imp (by repeat first | exact Imp.refl _ | (apply Imp.pull; focus ((repeat first | exact Del.head _ _ | apply Del.tail); done)) | apply Imp.drop)))
      | (refine finAt ?_; rw [tk_own (by omega) hc.1 hc.2]; exact Fini.of ⟨rfl, rfl⟩ (Imp.ref hY1 rfl (by repeat first | exact Imp.refl _ | (apply Imp.pull; focus ((repeat first | exact Del.head _ _ | apply Del.tail); done)) | apply Imp.drop)))
      | (refine T.atB 2 ?_; have hho : ∀ j, j < Y1.length → (gt Y1 j).2.ok := fun j hj => hSY.all _ (List.mem_map_of_mem (f := (·.2)) (gt_mem2 hj)); refine T.lpa 2 [(0, _), (2, _), (4, _), (6, _)] (0 : Nat) (fun i => [(10, .int .i64 (atI Y1 (keyE p) i)), (11, .int .i64 (i : Nat))]) (fun _ => []) (fun i => i ≤ Y1.length) (fun i => Y1.length - i) (Nat.zero_le _) ?_; rintro i g hi; have hne := fun h => (hho i h).ne; simp only [List.cons_append, List.nil_append, appR])
      | (refine TQ.atL ?_; refine TQ.rd (i + 1 : Nat) rfl ⟨vI' (at_yes (by assumption)), rfl, rfl, rfl, rfl, rfl, trivial⟩ (by omega) (by omega) (Ent.imp (by repeat first | exact Imp.refl _ | (apply Imp.pull; focus ((repeat first | exact Del.head _ _ | apply Del.tail); done)) | apply Imp.drop)))
      | (refine TQ.atL ?_; refine TQ.rd (i + 1 : Nat) rfl ⟨vI' (at_no (by assumption)), rfl, rfl, rfl, rfl, rfl, trivial⟩ (by omega) (by omega) (Ent.imp (by repeat first | exact Imp.refl _ | (apply Imp.pull; focus ((repeat first | exact Del.head _ _ | apply Del.tail); done)) | apply Imp.drop)))
      | (refine T.atSR 17 ?_; obtain rfl : i = Y1.length := (by omega); have hat := at_cases (k := keyE p) hSY; refine T.cutR 17 (fun _ : Unit => [(0, .pointer (some ⟨r, 0, none⟩)), (2, .int .u64 now), (4, .pointer (some ⟨b4, 0, none⟩)), (6, .pointer (some ⟨b6, 0, none⟩)), (10, .int .i64 (atI Y1 (keyE p) Y1.length)), (12, .int .i64 0), (88, .bool (decide (p.data.length = 0 ∨ (p.more = true ∧ p.data.length % 8 ≠ 0))))]) (fun _ => row 38 b4 (pktV p) :: row 38 b6 [.int .u32 0, .int .u32 0, .int .u8 0, .int .u8 0, .int .u16 0, .bool false, .bool false, .int .u16 0, .string { data := #[] }] :: row 34 r [.int .i64 most, .int .u64 life, .slice a1 (Y1).length k1] :: Pw.sl 74 (1 + 1) (.slice a1 (Y1).length k1) (Y1).length ((Y1).flatMap ptrS) :: famL Y1 :: R) (fun _ => True) ?_ (fun _ g _ => ?_))
      | (refine TQ.atC ?_; refine TQ.cn (() : Unit) rfl ⟨rfl, rfl, rfl, rfl, rfl, rfl, eqB (by first | (simp [*]; done) | fail), trivial⟩ trivial (Ent.imp (by repeat first | exact Imp.refl _ | (apply Imp.pull; focus ((repeat first | exact Del.head _ _ | apply Del.tail); done)) | apply Imp.drop)))
      | (refine T.atK (.tmp 88) ?_; have hg21 : True := trivial; refine T.cutC (.tmp 88) (fun _ : Unit => [(0, .pointer (some ⟨r, 0, none⟩)), (2, .int .u64 now), (4, .pointer (some ⟨b4, 0, none⟩)), (6, .pointer (some ⟨b6, 0, none⟩)), (10, .int .i64 (atI Y1 (keyE p) Y1.length)), (12, .int .i64 (mayE p : Nat))]) (fun _ => row 38 b4 (pktV p) :: row 38 b6 [.int .u32 0, .int .u32 0, .int .u8 0, .int .u8 0, .int .u16 0, .bool false, .bool false, .int .u16 0, .string { data := #[] }] :: row 34 r [.int .i64 most, .int .u64 life, .slice a1 (Y1).length k1] :: Pw.sl 74 (1 + 1) (.slice a1 (Y1).length k1) (Y1).length ((Y1).flatMap ptrS) :: famL Y1 :: R) (fun _ => True) ?_ (fun _ g _ => ?_))
      | (refine TQ.atC ?_; refine TQ.cn (() : Unit) rfl ⟨rfl, rfl, rfl, rfl, rfl, vI' (by rw [mayE']; first | (rw [if_pos (by assumption)]; rfl) | (rw [if_neg (by assumption), if_pos (by omega)]; rfl) | (rw [if_neg (by assumption), if_neg (by omega)]; rfl)), trivial⟩ trivial (Ent.imp (by repeat first | exact Imp.refl _ | (apply Imp.pull; focus ((repeat first | exact Del.head _ _ | apply Del.tail); done)) | apply Imp.drop)))
      | (refine T.atR 21 ?_; clear hg21; have hg29 : True := trivial; have hg36 : True := trivial; have hg51 : True := trivial; rcases hat with ⟨hat, hfn⟩ | ⟨j, hj, hat, hfs, hjk⟩ <;> rw [hat])
      | (refine finAt ?_; rw [tk_may (by omega) ‹¬ (p.more = false ∧ p.off = 0)› (by assumption), ← hY1, del_none hfn]; exact Fini.of ⟨rfl, rfl⟩ (Imp.ref rfl rfl (by repeat first | exact Imp.refl _ | (apply Imp.pull; focus ((repeat first | exact Del.head _ _ | apply Del.tail); done)) | apply Imp.drop)))
      | (refine finAt ?_; rw [tk_may (by omega) ‹¬ (p.more = false ∧ p.off = 0)› (by assumption), ← hY1, ← del_at hSY hj hjk]; exact Fini.of ⟨rfl, rfl⟩ (Imp.ref rfl rfl (by repeat first | exact Imp.refl _ | (apply Imp.pull; focus ((repeat first | exact Del.head _ _ | apply Del.tail); done)) | (refine Imp.pullL (by repeat first | exact Del.head _ _ | apply Del.tail) (List.eraseIdx_sublist _ _) ?_) | apply Imp.drop)))
      | (refine finAt ?_; rw [tk_full (by omega) ‹¬ (p.more = false ∧ p.off = 0)› (by assumption) (by rw [← hY1]; exact hfn) (by rw [← hY1, List.length_map]; assumption), ← hY1]; exact Fini.of ⟨rfl, rfl⟩ (Imp.ref rfl rfl (by repeat first | exact Imp.refl _ | (apply Imp.pull; focus ((repeat first | exact Del.head _ _ | apply Del.tail); done)) | apply Imp.drop)))
      | (refine T.atB 4 ?_; have hjo := hho j hj; have hjl := (hand_of (S := S) hjo).len; have hjs := (hand_of (S := S) hjo).sum; refine T.lpa 4 [(0, _), (4, _), (6, _), (10, _), (13, _)] (0 : Nat) (fun n => [(14, .int .i64 (n : Nat))]) (fun _ => []) (fun n => n ≤ (gt Y1 j).2.l.length ∧ ∀ m, m < n → dupE p (gt (gt Y1 j).2.l m) = false) (fun n => (gt Y1 j).2.l.length - n) ⟨Nat.zero_le _, fun m hm => absurd hm (Nat.not_lt_zero m)⟩ ?_; rintro n g ⟨hn4, hdu⟩; simp only [List.cons_append, List.nil_append, appR])
      | (refine T.atSR 34 ?_; refine T.cutR 34 (fun _ : Unit => [(0, .pointer (some ⟨r, 0, none⟩)), (4, .pointer (some ⟨b4, 0, none⟩)), (6, .pointer (some ⟨b6, 0, none⟩)), (10, .int .i64 (j : Nat)), (13, .slice (gt Y1 j).1.1 (gt Y1 j).2.l.length (gt Y1 j).1.2), (14, .int .i64 (n : Nat)), (184, .bool (dupE p (gt (gt Y1 j).2.l n)))]) (fun _ => row 38 b4 (pktV p) :: row 38 b6 [.int .u32 0, .int .u32 0, .int .u8 0, .int .u8 0, .int .u16 0, .bool false, .bool false, .int .u16 0, .string { data := #[] }] :: row 34 r [.int .i64 most, .int .u64 life, .slice a1 (Y1).length k1] :: Pw.sl 74 (1 + 1) (.slice a1 (Y1).length k1) (Y1).length ((Y1).flatMap ptrS) :: famL Y1 :: R) (fun _ => True) ?_ (fun _ g _ => ?_))
      | (refine TQ.atC ?_; refine TQ.cn (() : Unit) rfl ⟨rfl, rfl, rfl, rfl, rfl, rfl, eqB (by first | (unfold dupE; simp [*]; done) | fail), trivial⟩ trivial (Ent.imp (by repeat first | exact Imp.refl _ | (apply Imp.pull; focus ((repeat first | exact Del.head _ _ | apply Del.tail); done)) | apply Imp.drop)))
      | (refine finAt ?_; rw [tk_some (by omega) ‹¬ (p.more = false ∧ p.off = 0)› (by assumption) (by rw [← hY1]; exact hfs), ← hY1, fin_dup (List.any_eq_true.2 ⟨_, gt_memP (by assumption), by assumption⟩) hjo.nw, ← put_same hSY hj hjk hfs]; exact Fini.of ⟨rfl, rfl⟩ (Imp.ref rfl rfl (by repeat first | exact Imp.refl _ | (apply Imp.pull; focus ((repeat first | exact Del.head _ _ | apply Del.tail); done)) | apply Imp.drop)))
      | (refine TQ.atL ?_; refine TQ.rda (n + 1 : Nat) ⟨by omega, fun m h => (by rcases Nat.lt_or_eq_of_le (Nat.le_of_lt_succ h) with h | h; exact hdu m h; rw [h]; assumption)⟩ ?_)
      | (refine T.atR 36 ?_; clear hg36; obtain rfl : n = (gt Y1 j).2.l.length := (by omega); have hnd := any_no hdu)
      | (refine T.atSR 28 ?_; refine T.cutR 28 (fun _ : List RY × (Option Addr × Nat) => [(0, .pointer (some ⟨r, 0, none⟩)), (6, .pointer (some ⟨b6, 0, none⟩))]) (fun z => row 38 b6 [.int .u32 0, .int .u32 0, .int .u8 0, .int .u8 0, .int .u16 0, .bool false, .bool false, .int .u16 0, .string { data := #[] }] :: row 34 r [.int .i64 most, .int .u64 life, .slice z.2.1 (z.1).length z.2.2] :: Pw.sl 74 (1 + 1) (.slice z.2.1 (z.1).length z.2.2) (z.1).length ((z.1).flatMap ptrS) :: famL z.1 :: R) (fun z => z.1.length = Y1.length + 1 ∧ (gt z.1 (z.1.length - 1)).2 = ⟨[p], now + life⟩ ∧ (z.1.eraseIdx (z.1.length - 1)).map (·.2) = Y1.map (·.2) ∧ z.1.map (·.2) = Y1.map (·.2) ++ [⟨[p], now + life⟩]) ?_ (fun z g hz => ?_))
      | (refine TQ.atC ?_; rename_i q1 q2 q3; refine TQ.cn ((newY Y1 q1 p (now + life), (q3, b)) : List RY × (Option Addr × Nat)) rfl ⟨rfl, rfl, trivial⟩ ⟨by simp, by dsimp only; rw [gt_last], by dsimp only; rw [er_last], by simp⟩ (Ent.imp ((show Imp _ (row 34 r [.int .i64 most, .int .u64 life, .slice q3 (Y1.length + 1) b] :: Pw.sl 74 (1 + 1) (.slice q3 (Y1.length + 1) b) (Y1.length + 1) (Y1.flatMap ptrS ++ [.slice (some ⟨q1, 0, none⟩) 1 1, .int .u64 ((now + life : Nat) : Int)]) :: Pw.sl 38 (8 + 1) (.slice (some ⟨q1, 0, none⟩) 1 1) 1 (pktV p) :: famL Y1 :: row 38 b6 [.int .u32 0, .int .u32 0, .int .u8 0, .int .u8 0, .int .u16 0, .bool false, .bool false, .int .u16 0, .string { data := #[] }] :: R) from (by repeat first | exact Imp.refl _ | (apply Imp.pull; focus ((repeat first | exact Del.head _ _ | apply Del.tail); done)) | apply Imp.drop)).trans (fold_new.trans (by dsimp only; exact (by repeat first | exact Imp.refl _ | (apply Imp.pull; focus ((repeat first | exact Del.head _ _ | apply Del.tail); done)) | apply Imp.drop))))))
      | (refine T.atR 29 ?_; clear hg29; obtain ⟨Y2, ⟨a2, k2⟩⟩ := z; obtain ⟨h2l, h2g, h2e, h2m⟩ := hz; dsimp only at h2l h2g h2e h2m ⊢; have hW : Y2.length = Y2.length ∧ Y2.length - 1 < Y2.length ∧ Y2.length < 1000000 ∧ 0 < (gt Y2 (Y2.length - 1)).2.l.length ∧ (gt Y2 (Y2.length - 1)).2.l.length < 100000 ∧ (∀ q ∈ (gt Y2 (Y2.length - 1)).2.l, q.ok) ∧ ((gt Y2 (Y2.length - 1)).2.l.flatMap (·.data)).length < 1000000000 := (by rw [h2g]; refine ⟨rfl, by omega, by omega, by simp, by simp, fun q hq => ?_, ?_⟩; (rw [List.mem_singleton.1 hq]; exact hp); (have h9 : p.data.length ≤ 8192 := may_len (by assumption); simp; omega)))
      | (refine finAt ?_; rw [h2g, tk_new (by omega) ‹¬ (p.more = false ∧ p.off = 0)› (by assumption) (by rw [← hY1]; exact hfn) (by rw [← hY1, List.length_map]; assumption), ← hY1, fin_form (x' := ⟨[p], now + life⟩) rfl, del_none hfn, put_new hfn]; exact Fini.of ⟨rfl, rfl⟩ (Imp.ref (ifm h2e h2m) rfl (by repeat first | exact Imp.refl _ | (apply Imp.pull; focus ((repeat first | exact Del.head _ _ | apply Del.tail); done)) | apply Imp.drop)))
      | (refine finAt ?_; rw [tk_some (by omega) ‹¬ (p.more = false ∧ p.off = 0)› (by assumption) (by rw [← hY1]; exact hfs), ← hY1, fin_over hnd (by assumption), ← del_at hSY hj hjk]; exact Fini.of ⟨rfl, rfl⟩ (Imp.ref rfl rfl (by repeat first | exact Imp.refl _ | (apply Imp.pull; focus ((repeat first | exact Del.head _ _ | apply Del.tail); done)) | (refine Imp.pullL (by repeat first | exact Del.head _ _ | apply Del.tail) (List.eraseIdx_sublist _ _) ?_) | apply Imp.drop)))
      | (refine T.atB 6 ?_; have hnp := ‹(gt Y1 j).2.l.any (parE p) = false›; refine T.ent (Ent.imp (imp_ie0 (p := p) (l := (gt Y1 j).2.l))) ?_; refine T.lpa 6 [(0, _), (4, _), (6, _), (10, _), (13, _)] ((0, (none, 0)) : Nat × (Option Addr × Nat)) (fun z => [(15, .slice z.2.1 (iE p (gt Y1 j).2.l z.1).1.length z.2.2), (16, .bool (iE p (gt Y1 j).2.l z.1).2), (17, .int .i64 (z.1 : Nat))]) (fun z => [Pw.sl 38 (8 + 1) (.slice z.2.1 ((iE p (gt Y1 j).2.l z.1).1).length z.2.2) ((iE p (gt Y1 j).2.l z.1).1).length (((iE p (gt Y1 j).2.l z.1).1).flatMap pktV)]) (fun z => z.1 ≤ (gt Y1 j).2.l.length) (fun z => (gt Y1 j).2.l.length - z.1) (Nat.zero_le _) ?_ (hsl := ⟨by unfold iE; rfl, by unfold iE; rfl, rfl, trivial⟩); rintro ⟨n, ⟨a6, k6⟩⟩ g hn6; dsimp only at hn6 ⊢; have hil := ie_len p (gt Y1 j).2.l n; have hil2 : (iE p (gt Y1 j).2.l n).1.length ≤ n + 1 := (by split at hil <;> omega); simp only [List.cons_append, List.nil_append, appR])
      | (refine TQ.atL ?_; rename_i a9; have h61 := ‹(!(iE p (gt Y1 j).2.l n).2) = true›; have h62 := ‹plE p < plE (gt (gt Y1 j).2.l n)›; have e6 := ie_yes (by simpa using h61) h62; rw [show (iE p (gt Y1 j).2.l n).1.length + 1 + 1 = (iE p (gt Y1 j).2.l (n + 1)).1.length from by rw [e6]; simp, show (iE p (gt Y1 j).2.l n).1 ++ [p] ++ [gt (gt Y1 j).2.l n] = (iE p (gt Y1 j).2.l (n + 1)).1 from by rw [e6]]; refine TQ.rd ((n + 1, (a9, b)) : Nat × (Option Addr × Nat)) rfl ⟨rfl, eqB (by rw [e6]), rfl, rfl, rfl, rfl, rfl, rfl, trivial⟩ (by dsimp only; omega) (by dsimp only; omega) (Ent.imp (by repeat first | exact Imp.refl _ | (apply Imp.pull; focus ((repeat first | exact Del.head _ _ | apply Del.tail); done)) | apply Imp.drop)))
      | (refine TQ.atL ?_; rename_i a9; have e6 := ie_no (p := p) (l := (gt Y1 j).2.l) (n := n) (by first | exact fun hh => absurd hh.2 ‹¬ plE p < plE (gt (gt Y1 j).2.l n)› | exact fun hh => Bool.false_ne_true (Eq.trans (Eq.symm ‹(!(iE p (gt Y1 j).2.l n).2) = false›) (by rw [hh.1]; rfl))); rw [show (iE p (gt Y1 j).2.l n).1.length + 1 = (iE p (gt Y1 j).2.l (n + 1)).1.length from by rw [e6]; simp, show (iE p (gt Y1 j).2.l n).1 ++ [gt (gt Y1 j).2.l n] = (iE p (gt Y1 j).2.l (n + 1)).1 from by rw [e6]]; refine TQ.rd ((n + 1, (a9, b)) : Nat × (Option Addr × Nat)) rfl ⟨rfl, eqB (by rw [e6]), rfl, rfl, rfl, rfl, rfl, rfl, trivial⟩ (by dsimp only; omega) (by dsimp only; omega) (Ent.imp (by repeat first | exact Imp.refl _ | (apply Imp.pull; focus ((repeat first | exact Del.head _ _ | apply Del.tail); done)) | apply Imp.drop)))
      | (refine T.atK (.tmp 223) ?_; obtain rfl : n = (gt Y1 j).2.l.length := (by omega); have hie := ie_end (p := p) (l := (gt Y1 j).2.l); refine T.cutC (.tmp 223) (fun z : Option Addr × Nat => [(0, .pointer (some ⟨r, 0, none⟩)), (6, .pointer (some ⟨b6, 0, none⟩)), (10, .int .i64 (j : Nat)), (15, .slice z.1 (insE p (gt Y1 j).2.l).length z.2)]) (fun z => Pw.sl 38 (8 + 1) (.slice z.1 (insE p (gt Y1 j).2.l).length z.2) (insE p (gt Y1 j).2.l).length ((insE p (gt Y1 j).2.l).flatMap pktV) :: row 38 b4 (pktV p) :: row 38 b6 [.int .u32 0, .int .u32 0, .int .u8 0, .int .u8 0, .int .u16 0, .bool false, .bool false, .int .u16 0, .string { data := #[] }] :: row 34 r [.int .i64 most, .int .u64 life, .slice a1 (Y1).length k1] :: Pw.sl 74 (1 + 1) (.slice a1 (Y1).length k1) (Y1).length ((Y1).flatMap ptrS) :: famL Y1 :: R) (fun _ => True) ?_ (fun z g _ => ?_))
      | (refine TQ.atC ?_; first | (have h22 := ‹(!(iE p (gt Y1 j).2.l (gt Y1 j).2.l.length).2) = true›; rename_i a9; rw [show (iE p (gt Y1 j).2.l (gt Y1 j).2.l.length).1.length + 1 = (insE p (gt Y1 j).2.l).length from by rw [← hie, if_neg (by simpa using h22)]; simp, show (iE p (gt Y1 j).2.l (gt Y1 j).2.l.length).1 ++ [p] = insE p (gt Y1 j).2.l from by rw [← hie, if_neg (by simpa using h22)]]; refine TQ.cn ((a9, b) : Option Addr × Nat) rfl ⟨rfl, rfl, rfl, rfl, trivial⟩ trivial (Ent.imp (by repeat first | exact Imp.refl _ | (apply Imp.pull; focus ((repeat first | exact Del.head _ _ | apply Del.tail); done)) | apply Imp.drop))) | (have h22 := ‹(!(iE p (gt Y1 j).2.l (gt Y1 j).2.l.length).2) = false›; rw [show (iE p (gt Y1 j).2.l (gt Y1 j).2.l.length).1 = insE p (gt Y1 j).2.l from by rw [← hie, if_pos (by simpa using h22)]]; refine TQ.cn ((a6, k6) : Option Addr × Nat) rfl ⟨rfl, rfl, rfl, rfl, trivial⟩ trivial (Ent.imp (by repeat first | exact Imp.refl _ | (apply Imp.pull; focus ((repeat first | exact Del.head _ _ | apply Del.tail); done)) | apply Imp.drop))))
      | (refine T.atSR 50 ?_; obtain ⟨a7, k7⟩ := z; dsimp only; refine T.cutR 50 (fun _ : List RY × (Option Addr × Nat) => [(0, .pointer (some ⟨r, 0, none⟩)), (6, .pointer (some ⟨b6, 0, none⟩)), (10, .int .i64 (j : Nat))]) (fun z => row 38 b6 [.int .u32 0, .int .u32 0, .int .u8 0, .int .u8 0, .int .u16 0, .bool false, .bool false, .int .u16 0, .string { data := #[] }] :: row 34 r [.int .i64 most, .int .u64 life, .slice z.2.1 (z.1).length z.2.2] :: Pw.sl 74 (1 + 1) (.slice z.2.1 (z.1).length z.2.2) (z.1).length ((z.1).flatMap ptrS) :: famL z.1 :: R) (fun z => z.1.length = Y1.length ∧ (gt z.1 j).2 = ⟨insE p (gt Y1 j).2.l, (gt Y1 j).2.til⟩ ∧ (z.1.eraseIdx j).map (·.2) = delS (Y1.map (·.2)) (keyE p) ∧ z.1.map (·.2) = putS (Y1.map (·.2)) (keyE p) ⟨insE p (gt Y1 j).2.l, (gt Y1 j).2.til⟩) ?_ (fun z g hz => ?_))
      | (refine TQ.atC ?_; refine TQ.cn (((Y1.set j ((a7, k7), ⟨insE p (gt Y1 j).2.l, (gt Y1 j).2.til⟩)), (a1, k1)) : List RY × (Option Addr × Nat)) rfl ⟨rfl, rfl, rfl, trivial⟩ ⟨by simp, by dsimp only; rw [gt_set hj], by dsimp only; rw [er_set]; exact del_at hSY hj hjk, put_at hSY hj hjk hfs⟩ (Ent.imp ((show Imp _ (row 34 r [.int .i64 most, .int .u64 life, .slice a1 Y1.length k1] :: Pw.sl 74 (1 + 1) (.slice a1 Y1.length k1) Y1.length ((Y1.flatMap ptrS).set (j * (1 + 1) + 0) (.slice a7 (insE p (gt Y1 j).2.l).length k7)) :: Pw.sl 38 (8 + 1) (.slice a7 (insE p (gt Y1 j).2.l).length k7) (insE p (gt Y1 j).2.l).length ((insE p (gt Y1 j).2.l).flatMap pktV) :: famL Y1 :: row 38 b6 [.int .u32 0, .int .u32 0, .int .u8 0, .int .u8 0, .int .u16 0, .bool false, .bool false, .int .u16 0, .string { data := #[] }] :: R) from (by repeat first | exact Imp.refl _ | (apply Imp.pull; focus ((repeat first | exact Del.head _ _ | apply Del.tail); done)) | apply Imp.drop)).trans ((fold_set hj rfl).trans (by dsimp only; exact (by repeat first | exact Imp.refl _ | (apply Imp.pull; focus ((repeat first | exact Del.head _ _ | apply Del.tail); done)) | apply Imp.drop))))))
      | (refine T.atR 51 ?_; clear hg51; obtain ⟨Y2, ⟨a2, k2⟩⟩ := z; obtain ⟨h2l, h2g, h2e, h2m⟩ := hz; dsimp only at h2l h2g h2e h2m ⊢; have hHP := add_hand (hand_of (S := S) hjo) hp (Decidable.not_not.1 ‹¬ mayE p ≠ 0›); rw [add_n hnd hnp] at hHP; have hHl := hHP.len; have hHs := hHP.sum; have hHa := hHP.all; have hW : Y2.length = Y2.length ∧ j < Y2.length ∧ Y2.length < 1000000 ∧ 0 < (gt Y2 j).2.l.length ∧ (gt Y2 j).2.l.length < 100000 ∧ (∀ q ∈ (gt Y2 j).2.l, q.ok) ∧ ((gt Y2 j).2.l.flatMap (·.data)).length < 1000000000 := (by rw [h2g]; exact ⟨rfl, by omega, by omega, by dsimp only; rw [insE_len]; omega, Nat.lt_of_le_of_lt hHl (by decide), hHa, hHs⟩))
      | (refine finAt ?_; rw [h2g, tk_some (by omega) ‹¬ (p.more = false ∧ p.off = 0)› (by assumption) (by rw [← hY1]; exact hfs), ← hY1, fin_form (add_n hnd hnp)]; exact Fini.of ⟨rfl, rfl⟩ (Imp.ref (ifm h2e h2m) rfl (by repeat first | exact Imp.refl _ | (apply Imp.pull; focus ((repeat first | exact Del.head _ _ | apply Del.tail); done)) | apply Imp.drop)))
      | exact hp
      | exact hW
      | exact hjo.all
      | exact hjo.all _ (gt_memP (by assumption))
      | exact ⟨rfl, hj, by omega⟩
      | exact ⟨rfl, by omega, by omega⟩
      | refine T.pl 14 [11] (.p 0 (.p 1 (.p 4 (.d 2 (.d 3 (.d 5 (.d 6 (.d 7 (.d 8 (.d 9 (.d 10 (.n 11 .fin)))))))))))) ?_
      | refine T.pl 26 [] (.p 0 (.p 1 (.p 5 (.p 6 (.d 2 (.d 3 (.p 4 (.d 7 (.d 8 (.p 9 .fin)))))))))) ?_
      | refine T.pl 28 [6, 14, 15, 18] (.p 0 (.p 1 (.p 2 (.p 7 (.p 8 (.p 9 (.d 5 (.p 3 (.p 10 (.b3 4 (.b2 6 (.d 11 (.p 12 (.p 13 (.n 14 (.n 15 (.p 16 (.d 17 (.n 18 .fin)))))))) 11 (.p 12 (.n 6 (.p 13 (.n 14 (.n 15 (.p 16 (.d 17 (.n 18 .fin))))))))) 6 (.d 11 (.p 12 (.p 13 (.b2 4 (.n 14 (.n 15 (.p 16 (.d 17 (.n 18 .fin))))) 14 (.d 4 (.n 15 (.p 16 (.d 17 (.n 18 .fin))))))))) 11 (.p 12 (.b2 4 (.n 6 (.p 13 (.n 14 (.n 15 (.p 16 (.d 17 (.n 18 .fin))))))) 6 (.p 13 (.b2 4 (.n 14 (.n 15 (.p 16 (.d 17 (.n 18 .fin))))) 14 (.d 4 (.n 15 (.p 16 (.d 17 (.n 18 .fin))))))))))))))))))) ?_
      | refine T.pl 34 [] (.p 0 (.p 1 (.d 2 (.d 3 (.d 4 (.d 5 (.d 6 (.p 7 (.p 8 (.p 9 (.p 10 (.d 11 (.d 12 (.d 13 (.d 14 (.d 15 (.p 16 (.p 17 (.p 18 (.p 19 (.p 20 (.d 21 (.d 22 (.d 23 (.d 24 (.d 25 (.p 26 (.p 27 .fin)))))))))))))))))))))))))))) ?_
      | refine T.pl 44 [4, 9] (.p 0 (.p 1 (.p 2 (.p 5 (.p 6 (.d 3 (.b2 4 (.d 7 (.d 8 (.n 9 (.p 10 (.p 11 .fin))))) 7 (.b2 4 (.d 8 (.n 9 (.p 10 (.p 11 .fin)))) 8 (.n 4 (.n 9 (.p 10 (.p 11 .fin)))))))))))) ?_
      | refine And.intro (fun hc => ?_) (fun hc => ?_)
      | refine And.intro ?_ ?_
      | intro b
      | refine stp ?_
      | refine TQ.finC ?_
      | refine TQ.finC2 ?_
      | refine TQ.finC3 ?_
      | refine ⟨fun hc => ?_, fun hc => ?_⟩
      | refine Ei.f ?_
      | refine ⟨?_, ?_⟩
      | intro b
      | exact absurd rfl hc
      | exact absurd hc (by decide)
      | exact absurd rfl hc
      | exact absurd hc (by decide)
      | omega
      | (dsimp only; omega)
      | fail)

end Go.Proofs.Ytmhkmcoobpfkcaa

