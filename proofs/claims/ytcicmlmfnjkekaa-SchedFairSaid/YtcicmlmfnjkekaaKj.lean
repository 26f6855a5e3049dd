/- Lemmas for the proofs of this seat: no statement of the seat is claimed here. -/
import Derived.Test.YtcicmlmfnjkekaaKh
set_option linter.all false

namespace Go.Proofs.Ytcicmlmfnjkekaa
open Go Pw
set_option maxRecDepth 20000
set_option maxHeartbeats 4000000
set_option synthInstance.maxHeartbeats 400000
set_option synthInstance.maxSize 4000
set_option maxHeartbeats 1000000

def cmpI (x y : Nat) : Int := if x < y then -1 else if y < x then 1 else 0
theorem cmpI_lt {x y : Nat} (h : x < y) : cmpI x y = -1 := if_pos h
theorem cmpI_gt {x y : Nat} (h : y < x) : cmpI x y = 1 := by rw [cmpI, if_neg (by omega), if_pos h]
theorem cmpI_eq {x y : Nat} (h1 : ¬ x < y) (h2 : ¬ y < x) : cmpI x y = 0 := by rw [cmpI, if_neg h1, if_neg h2]
theorem cmpI_neg {x y : Nat} : cmpI x y < 0 ↔ x < y := by
  unfold cmpI; constructor
  · intro h; split at h
    · assumption
    · split at h <;> omega
  · intro h; rw [if_pos h]; decide
theorem nan_spec (x : Nat) :
    Sat Try.prog 51 [.int .u64 (x : Nat)] [] (fun u L' => u = .bool false ∧ L' = []) := by
  all_goals
    refine Sat.enter Try.func51 rfl Try.ntmps51 rfl (fun c R => ?_)
    try simp only [List.cons_append, List.nil_append]
    repeat' (first
      | (exact Fini.of ⟨by simp <;> rfl, rfl⟩ (Imp.refl _))
      | refine And.intro (fun hc => ?_) (fun hc => ?_)
      | refine And.intro ?_ ?_
      | intro b
      | refine stp ?_
      | refine TQ.finC ?_
      | refine TQ.finC2 ?_
      | refine TQ.finC3 ?_
      | refine ⟨fun hc => ?_, fun hc => ?_⟩
      | refine Ei.f ?_
      | refine ⟨?_, ?_⟩
      | intro b
      | omega
      | (dsimp only; omega)
      | fail)
instance {L : List Assn} {x : Int} {n : Nat} [hx : Nn x n] : FnR Try.prog 51 [.int .u64 x] L (fun kk => kk (.bool false) L) := ⟨fun kk h => ⟨[], L, _, by have := nan_spec n; rw [← hx.h] at this; exact this, .nil _, fun v L' hq => by rw [hq.1, hq.2]; exact h⟩⟩
theorem cmp_spec (x y : Nat) :
    Sat Try.prog 34 [.int .u64 (x : Nat), .int .u64 (y : Nat)] [] (fun u L' => u = .int .i64 (cmpI x y) ∧ L' = []) := by
  all_goals
    refine Sat.enter Try.func34 rfl Try.ntmps34 rfl (fun c R => ?_)
    try simp only [List.cons_append, List.nil_append]
    repeat' (first
      | (exact Fini.of ⟨by rw [cmpI_lt (by omega)]; rfl, rfl⟩ (Imp.refl _))
      | (exact Fini.of ⟨by rw [cmpI_gt (by omega)]; rfl, rfl⟩ (Imp.refl _))
      | (exact Fini.of ⟨by rw [cmpI_eq (by omega) (by omega)]; rfl, rfl⟩ (Imp.refl _))
      | refine And.intro (fun hc => ?_) (fun hc => ?_)
      | refine And.intro ?_ ?_
      | intro b
      | refine stp ?_
      | refine TQ.finC ?_
      | refine TQ.finC2 ?_
      | refine TQ.finC3 ?_
      | refine ⟨fun hc => ?_, fun hc => ?_⟩
      | refine Ei.f ?_
      | refine ⟨?_, ?_⟩
      | intro b
      | omega
      | (dsimp only; omega)
      | fail)
instance {L : List Assn} {x y : Int} {n m : Nat} [hx : Nn x n] [hy : Nn y m] : FnR Try.prog 34 [.int .u64 x, .int .u64 y] L (fun kk => kk (.int .i64 (cmpI n m)) L) := ⟨fun kk h => ⟨[], L, _, by have := cmp_spec n m; rw [← hx.h, ← hy.h] at this; exact this, .nil _, fun v L' hq => by rw [hq.1, hq.2]; exact h⟩⟩
theorem tick2_spec (x y : Nat) (ps : List Nat) (tk : Nat → Tk) (hx : x ∈ ps) (hy : y ∈ ps) :
    Sat Try.prog 33 [.pointer (some ⟨x, 0, none⟩), .pointer (some ⟨y, 0, none⟩)] [objF tkV 65 ps tk] (fun u L' => u = .int .i64 (cmpI (tk x).un (tk y).un) ∧ L' = [objF tkV 65 ps tk]) := by
  all_goals
    refine Sat.enter Try.func33 rfl Try.ntmps33 rfl (fun c R => ?_)
    try simp only [List.cons_append, List.nil_append]
    repeat' (first
      | exact hx
      | exact hy
      | (exact Fini.of ⟨rfl, rfl⟩ (by repeat first | exact Imp.refl _ | (apply Imp.pull; focus ((repeat first | exact Del.head _ _ | apply Del.tail); done)) | apply Imp.drop))
      | refine T.pl 1 [8] (.p 0 (.p 1 (.p 4 (.p 5 (.d 2 (.d 3 (.d 6 (.d 7 (.n 8 (.p 9 .fin)))))))))) ?_
      | refine And.intro (fun hc => ?_) (fun hc => ?_)
      | refine And.intro ?_ ?_
      | intro b
      | refine stp ?_
      | refine TQ.finC ?_
      | refine TQ.finC2 ?_
      | refine TQ.finC3 ?_
      | refine ⟨fun hc => ?_, fun hc => ?_⟩
      | refine Ei.f ?_
      | refine ⟨?_, ?_⟩
      | intro b
      | omega
      | (dsimp only; omega)
      | fail)
instance {L R : List Assn} {x y : Nat} {ps : List Nat} {tk : Nat → Tk} [h4 : ObjAt L Tk tkV 65 ps tk R] : FnR Try.prog 33 [.pointer (some ⟨x, 0, none⟩), .pointer (some ⟨y, 0, none⟩)] L (fun q => Vc (x ∈ ps ∧ y ∈ ps) (q (.int .i64 (cmpI (tk x).un (tk y).un)) (objF tkV 65 ps tk :: R))) :=
  ⟨fun q h => ⟨_, R, _, tick2_spec x y ps tk h.l.1 h.l.2, .cons h4.h (.nil _), fun v L' hv => by rw [hv.1, hv.2]; exact h.r⟩⟩

end Go.Proofs.Ytcicmlmfnjkekaa


namespace Go.Proofs.Ytcicmlmfnjkekaa
open Go Pw
set_option maxRecDepth 20000
set_option maxHeartbeats 4000000
set_option synthInstance.maxHeartbeats 400000
set_option synthInstance.maxSize 4000
set_option maxHeartbeats 1000000

/-- One more into a row that is in order, behind those that are not above it. -/
def insR (f : Nat → Nat) (x : Nat) : List Nat → List Nat
  | [] => [x]
  | y :: ys => if f x < f y then y :: insR f x ys else x :: y :: ys
def insA (f : Nat → Nat) (A : List Nat) (x : Nat) : List Nat := (insR f x A.reverse).reverse
def isort (f : Nat → Nat) (l : List Nat) : List Nat := l.foldl (insA f) []
theorem insR_perm (f : Nat → Nat) (x : Nat) : ∀ l, (insR f x l).Perm (x :: l)
  | [] => .refl _
  | y :: ys => by
    unfold insR
    split
    · exact ((insR_perm f x ys).cons y).trans (.swap _ _ _)
    · exact .refl _
theorem insA_perm (f : Nat → Nat) (A : List Nat) (x : Nat) : (insA f A x).Perm (A ++ [x]) :=
  (List.reverse_perm _).trans ((insR_perm f x A.reverse).trans (((List.reverse_perm A).cons x).trans (List.perm_append_comm (l₁ := [x]))))
theorem isort_snoc (f : Nat → Nat) (l : List Nat) (x : Nat) : isort f (l ++ [x]) = insA f (isort f l) x := by unfold isort; rw [List.foldl_append]; rfl
theorem foldl_insA (f : Nat → Nat) : ∀ (l A : List Nat), (l.foldl (insA f) A).Perm (A ++ l)
  | [], A => by rw [List.append_nil]; exact .refl _
  | x :: l, A => by
    rw [List.foldl_cons]
    refine (foldl_insA f l (insA f A x)).trans ?_
    rw [show A ++ x :: l = (A ++ [x]) ++ l by simp]
    exact (insA_perm f A x).append_right l
theorem isort_perm (f : Nat → Nat) (l : List Nat) : (isort f l).Perm l := by
  have := foldl_insA f l []
  rw [List.nil_append] at this
  exact this
theorem insR_at (f : Nat → Nat) (x : Nat) (W : List Nat) : ∀ V, (∀ v ∈ V, f x < f v) → insR f x (V ++ W) = V ++ insR f x W
  | [], _ => rfl
  | v :: V, h => by
    rw [List.cons_append, insR, if_pos (h v (List.mem_cons_self ..)), insR_at f x W V (fun u hu => h u (List.mem_cons_of_mem _ hu)), List.cons_append]
theorem insA_at {f : Nat → Nat} {x : Nat} {U V : List Nat} (hV : ∀ v ∈ V, f x < f v) (hU : ∀ y U', U = U' ++ [y] → ¬ f x < f y) : insA f (U ++ V) x = U ++ x :: V := by
  unfold insA
  rw [List.reverse_append, insR_at f x _ V.reverse (fun v hv => hV v (List.mem_reverse.1 hv))]
  have : insR f x U.reverse = x :: U.reverse := by
    rcases h : U.reverse with _ | ⟨y, W⟩
    · rfl
    · have e : U = W.reverse ++ [y] := by have := congrArg List.reverse h; rw [List.reverse_reverse, List.reverse_cons] at this; exact this
      rw [insR, if_neg (hU y _ e)]
  rw [this]
  simp
/-- The row while one goes to its place. -/
def invI (f : Nat → Nat) (P A W : List Nat) (x : Nat) (r : List Nat) (n : Nat) : Prop :=
  ∃ U V, U ++ V = A ∧ U.length = n ∧ r = P ++ (U ++ x :: (V ++ W)) ∧ ∀ v ∈ V, f x < f v
theorem gt_app {α : Type} [Inhabited α] (U V : List α) (x : α) (j : Nat) (h : j = U.length) : gt (U ++ x :: V) j = x := by
  subst h; unfold gt; rw [List.getD_eq_getElem?_getD, List.getElem?_append_right (Nat.le_refl _)]; simp
theorem invI_0 {f : Nat → Nat} {P A W : List Nat} {x : Nat} : invI f P A W x (P ++ (A ++ x :: W)) A.length := ⟨A, [], by simp, rfl, by simp, by simp⟩
theorem invI_len {f : Nat → Nat} {P A W : List Nat} {x : Nat} {r : List Nat} {n : Nat} (h : invI f P A W x r n) : r.length = P.length + A.length + 1 + W.length ∧ n ≤ A.length := by
  obtain ⟨U, V, rfl, rfl, rfl, _⟩ := h
  simp; omega
theorem invI_mem {f : Nat → Nat} {P A W : List Nat} {x : Nat} {r : List Nat} {n : Nat} (h : invI f P A W x r n) : r.Perm (P ++ (A ++ x :: W)) := by
  obtain ⟨U, V, rfl, rfl, rfl, _⟩ := h
  refine List.Perm.append_left _ ?_
  rw [List.append_assoc]
  refine List.Perm.append_left _ ?_
  exact (List.perm_middle (l₁ := V) (l₂ := W)).symm
theorem invI_gt {f : Nat → Nat} {P A W : List Nat} {x : Nat} {r : List Nat} {n : Nat} (h : invI f P A W x r n) : gt r (P.length + n) = x := by
  obtain ⟨U, V, rfl, rfl, rfl, _⟩ := h
  rw [← List.append_assoc]
  exact gt_app _ _ _ _ (by simp)
theorem swap_at {X Z : List Nat} {x y : Nat} {j : Nat} (h : j = X.length) : ((X ++ y :: x :: Z).set (j + 1) y).set j x = X ++ x :: y :: Z := by
  subst h
  simp
theorem invI_next {f : Nat → Nat} {P A W : List Nat} {x : Nat} {r : List Nat} {n : Nat} (h : invI f P A W x r (n + 1)) (hl : f (gt r (P.length + (n + 1))) < f (gt r (P.length + n))) :
    invI f P A W x ((r.set (P.length + (n + 1)) (gt r (P.length + n))).set (P.length + n) (gt r (P.length + (n + 1)))) n := by
  have hx := invI_gt h
  obtain ⟨U, V, rfl, hU, rfl, hV⟩ := h
  rcases List.eq_nil_or_concat U with rfl | ⟨U', y, rfl⟩
  · cases hU
  · rw [List.concat_eq_append] at *
    have hn : U'.length = n := by simpa using hU
    have e : P ++ (U' ++ [y] ++ x :: (V ++ W)) = (P ++ U') ++ y :: x :: (V ++ W) := by simp
    have hy : gt ((P ++ U') ++ y :: x :: (V ++ W)) (P.length + n) = y := gt_app _ _ _ _ (by simp [hn])
    rw [e] at hx hl ⊢
    rw [hx, hy] at hl ⊢
    refine ⟨U', y :: V, by simp, hn, ?_, ?_⟩
    · rw [← Nat.add_assoc, swap_at (by simp [hn])]; simp
    · intro v hv
      rcases List.mem_cons.1 hv with rfl | hv
      · exact hl
      · exact hV v hv
theorem invI_end {f : Nat → Nat} {P A W : List Nat} {x : Nat} {r : List Nat} {n : Nat} (h : invI f P A W x r n) (hl : n = 0 ∨ ∃ m, n = m + 1 ∧ ¬ f (gt r (P.length + n)) < f (gt r (P.length + m))) : r = P ++ (insA f A x ++ W) := by
  have hx := invI_gt h
  obtain ⟨U, V, rfl, hU, rfl, hV⟩ := h
  rw [insA_at hV]
  · simp
  · rintro y U' rfl
    have hn : U'.length + 1 = n := by simpa using hU
    rcases hl with rfl | ⟨m, rfl, hl⟩
    · cases hn
    · have e : P ++ (U' ++ [y] ++ x :: (V ++ W)) = (P ++ U') ++ y :: x :: (V ++ W) := by simp
      have hy : gt ((P ++ U') ++ y :: x :: (V ++ W)) (P.length + m) = y := gt_app _ _ _ _ (by simp; omega)
      rw [e] at hx hl
      rw [hx, hy] at hl
      exact hl
/-- The row behind i of the middle ones. -/
def rowI (f : Nat → Nat) (P M Q : List Nat) (i : Nat) : List Nat := P ++ (isort f (M.take i) ++ (M.drop i ++ Q))
theorem isort_1 (f : Nat → Nat) (x : Nat) : isort f [x] = [x] := rfl
theorem rowI_1 (f : Nat → Nat) (P M Q : List Nat) : rowI f P M Q 1 = P ++ (M ++ Q) := by
  unfold rowI
  rcases M with _ | ⟨x, M⟩
  · rfl
  · show P ++ (isort f [x] ++ _) = _
    rw [isort_1]; rfl
theorem rowI_all {f : Nat → Nat} {P M Q : List Nat} {i : Nat} (h : M.length ≤ i) : rowI f P M Q i = P ++ (isort f M ++ Q) := by
  unfold rowI
  rw [List.take_of_length_le h, List.drop_eq_nil_of_le h, List.nil_append]
theorem rowI_len (f : Nat → Nat) (P M Q : List Nat) (i : Nat) : (rowI f P M Q i).Perm (P ++ (M ++ Q)) := by
  unfold rowI
  refine List.Perm.append_left _ ?_
  rw [← List.append_assoc]
  refine List.Perm.append_right _ ?_
  exact ((isort_perm f _).append_right _).trans (by rw [List.take_append_drop])
theorem rowI_at {f : Nat → Nat} {P M Q : List Nat} {i : Nat} (h : i < M.length) : rowI f P M Q i = P ++ (isort f (M.take i) ++ gt M i :: (M.drop (i + 1) ++ Q)) := by
  unfold rowI
  rw [show M.drop i = gt M i :: M.drop (i + 1) by rw [gt, List.getD_eq_getElem?_getD, List.getElem?_eq_getElem h]; exact (List.getElem_cons_drop h).symm, List.cons_append]
theorem rowI_next {f : Nat → Nat} {P M Q : List Nat} {i : Nat} (h : i < M.length) : rowI f P M Q (i + 1) = P ++ (insA f (isort f (M.take i)) (gt M i) ++ (M.drop (i + 1) ++ Q)) := by
  unfold rowI
  rw [take_gt h, isort_snoc]
attribute [local irreducible] invI rowI isort insA
theorem ins_spec (k : Nat) (a9 : Option Addr) (s P M Q ps : List Nat) (tk : Nat → Tk) (hs : s = P ++ (M ++ Q)) (hr : ∀ q ∈ s, q ∈ ps) (hl : s.length < 1000000000) :
    Sat Try.prog 54 [.slice a9 s.length k, .int .i64 (P.length : Nat), .int .i64 ((P.length + M.length : Nat) : Int), .func (.func 33) #[] #[]] [sl 61 1 (.slice a9 s.length k) s.length ((s).map pv), objF tkV 65 ps tk] (fun u L' => u = asResult [] ∧ L' = [sl 61 1 (.slice a9 s.length k) s.length ((P ++ (isort (fun q => (tk q).un) M ++ Q)).map pv), objF tkV 65 ps tk]) := by
  have hsl0 : s.length = P.length + (M.length + Q.length) := by rw [hs]; simp
  all_goals
    refine Sat.enter Try.func54 rfl Try.ntmps54 rfl (fun c R => ?_)
    try simp only [List.cons_append, List.nil_append]
    repeat' (first
      | (refine T.atB 0 ?_; refine T.ent (Ent.imp (show Imp _ (sl 61 1 (.slice a9 s.length k) s.length ((rowI (fun q => (tk q).un) P M Q 1).map pv) :: _) from (by rw [rowI_1, ← hs]; apply Imp.pull (by first | exact Del.head _ _ | exact Del.tail (Del.head _ _) | exact Del.tail (Del.tail (Del.head _ _)) | exact Del.tail (Del.tail (Del.tail (Del.head _ _))) | exact Del.tail (Del.tail (Del.tail (Del.tail (Del.head _ _)))) | exact Del.tail (Del.tail (Del.tail (Del.tail (Del.tail (Del.head _ _))))) | exact Del.tail (Del.tail (Del.tail (Del.tail (Del.tail (Del.tail (Del.head _ _)))))) | exact Del.tail (Del.tail (Del.tail (Del.tail (Del.tail (Del.tail (Del.tail (Del.head _ _))))))) | exact Del.tail (Del.tail (Del.tail (Del.tail (Del.tail (Del.tail (Del.tail (Del.tail (Del.head _ _))))))))); exact Imp.refl _))) ?_; refine T.lpa 0 [(0, _), (1, _), (2, _), (3, _)] (1 : Nat) (fun z => [(8, .int .i64 ((P.length + z : Nat) : Int))]) (fun z => [sl 61 1 (.slice a9 s.length k) s.length ((rowI (fun q => (tk q).un) P M Q z).map pv)]) (fun z => 1 ≤ z) (fun z => M.length - z) (Nat.le_refl _) ?_; rintro i g hI; (try dsimp only at hI ⊢); have hpm := rowI_len (fun q => (tk q).un) P M Q i; have hrl := hpm.length_eq; rw [← hs] at hrl; simp only [List.cons_append, List.nil_append, appR])
      | (refine T.atB 2 ?_; have hi : i < M.length := (by omega); have hA : (isort (fun q => (tk q).un) (M.take i)).length = i := (by rw [(isort_perm (fun q => (tk q).un) (M.take i)).length_eq, List.length_take]; omega); refine T.lpa 2 [(0, _), (1, _), (2, _), (3, _), (8, _)] ((rowI (fun q => (tk q).un) P M Q i, i) : List Nat × Nat) (fun z => [(9, .int .i64 ((P.length + z.2 : Nat) : Int))]) (fun z => [sl 61 1 (.slice a9 s.length k) s.length ((z.1).map pv)]) (fun z => invI (fun q => (tk q).un) P (isort (fun q => (tk q).un) (M.take i)) (M.drop (i + 1) ++ Q) (gt M i) z.1 z.2) (fun z => z.2) (by dsimp only; rw [rowI_at hi]; have := invI_0 (f := (fun q => (tk q).un)) (P := P) (A := isort (fun q => (tk q).un) (M.take i)) (W := M.drop (i + 1) ++ Q) (x := gt M i); rw [hA] at this; exact this) ?_; rintro ⟨r, n⟩ g2 hI2; dsimp only at hI2 ⊢; have hrl2 := (invI_len hI2).1; rw [hA, List.length_append, List.length_drop] at hrl2; have hn2 := (invI_len hI2).2; rw [hA] at hn2; have hps : ∀ q ∈ r, q ∈ ps := (fun q hq => hr q (by rw [hs]; have := (invI_mem hI2).mem_iff.1 hq; rw [← rowI_at hi] at this; exact hpm.mem_iff.1 this)); have hsl : s.length = P.length + (M.length + Q.length) := (by rw [hs]; simp); simp only [List.cons_append, List.nil_append, appR])
      | (refine TQ.atL ?_; have hcm := cmpI_neg.1 hc; guard_hyp hI2 : _; obtain ⟨m, hm⟩ : ∃ m, n = m + 1 := (match n, (show 0 < n by omega) with | m + 1, _ => ⟨m, rfl⟩); subst hm; rw [show P.length + (m + 1) - 1 = P.length + m by omega] at *; refine TQ.rd ((_, m) : List Nat × Nat) rfl ⟨rfl, rfl, rfl, rfl, rfl, rfl, trivial⟩ (invI_next hI2 hcm) (by dsimp only; omega) (Ent.imp (by repeat first | exact Imp.refl _ | (apply Imp.pull; focus ((repeat first | exact Del.head _ _ | apply Del.tail); done)) | apply Imp.drop)))
      | (refine TQ.atL ?_; have hn0 := Nat.eq_zero_of_not_pos (fun h0 : 0 < n => hc (Nat.lt_add_of_pos_right h0)); have hend := invI_end hI2 (.inl hn0); rw [← rowI_next hi] at hend; rw [hend]; refine TQ.rd (i + 1) rfl ⟨rfl, rfl, rfl, rfl, rfl, trivial⟩ (by omega) (by omega) (Ent.imp (by repeat first | exact Imp.refl _ | (apply Imp.pull; focus ((repeat first | exact Del.head _ _ | apply Del.tail); done)) | apply Imp.drop)))
      | (refine TQ.atL ?_; have hcm := fun h => hc (cmpI_neg.2 h); have hend := invI_end hI2 (.inr ⟨n - 1, by omega, by rw [show P.length + (n - 1) = P.length + n - 1 by omega]; exact hcm⟩); rw [← rowI_next hi] at hend; rw [hend]; refine TQ.rd (i + 1) rfl ⟨rfl, rfl, rfl, rfl, rfl, trivial⟩ (by omega) (by omega) (Ent.imp (by repeat first | exact Imp.refl _ | (apply Imp.pull; focus ((repeat first | exact Del.head _ _ | apply Del.tail); done)) | apply Imp.drop)))
      | (have hmi : M.length ≤ i := (by omega); rw [rowI_all hmi]; exact Fini.of ⟨rfl, rfl⟩ (by repeat first | exact Imp.refl _ | (apply Imp.pull; focus ((repeat first | exact Del.head _ _ | apply Del.tail); done)) | apply Imp.drop))
      | exact trivial
      | (simp only [List.length_set]; omega)
      | exact hps _ (gt_mem (by omega))
      | refine T.pl 4 [14] (.p 0 (.p 1 (.p 2 (.p 3 (.p 4 (.p 5 (.p 6 (.p 9 (.p 10 (.p 11 (.d 7 (.d 8 (.d 12 (.d 13 (.n 14 (.p 15 (.p 16 .fin))))))))))))))))) ?_
      | refine T.pl 6 [15, 17] (.p 0 (.p 1 (.p 2 (.p 3 (.p 4 (.p 5 (.p 6 (.p 7 (.p 10 (.p 11 (.d 8 (.d 9 (.d 12 (.d 13 (.d 14 (.n 15 (.d 16 (.n 17 .fin)))))))))))))))))) ?_
      | refine And.intro (fun hc => ?_) (fun hc => ?_)
      | refine And.intro ?_ ?_
      | intro b
      | refine stp ?_
      | refine TQ.finC ?_
      | refine TQ.finC2 ?_
      | refine TQ.finC3 ?_
      | refine ⟨fun hc => ?_, fun hc => ?_⟩
      | refine Ei.f ?_
      | refine ⟨?_, ?_⟩
      | intro b
      | fail)

end Go.Proofs.Ytcicmlmfnjkekaa


namespace Go.Proofs.Ytcicmlmfnjkekaa
open Go Pw
set_option maxRecDepth 20000
set_option maxHeartbeats 4000000
set_option synthInstance.maxHeartbeats 400000
set_option synthInstance.maxSize 4000
set_option maxHeartbeats 1000000

def sortI (f : Nat → Nat) (s : List Nat) (a b : Nat) : List Nat := s.take a ++ (isort f ((s.take b).drop a) ++ s.drop b)
theorem sortI_all (f : Nat → Nat) (s : List Nat) : sortI f s 0 s.length = isort f s := by unfold sortI; simp
theorem sortI_nil {f : Nat → Nat} {s : List Nat} {a : Nat} (h : a ≤ s.length) : sortI f s a a = s := by
  unfold sortI
  rw [List.drop_eq_nil_of_le (by rw [List.length_take]; omega)]
  show s.take a ++ ([] ++ s.drop a) = s
  simp
theorem isort_len (f : Nat → Nat) (l : List Nat) : (isort f l).length = l.length := (isort_perm f l).length_eq
theorem mid_split {s : List Nat} {a b : Nat} (h1 : a ≤ b) : s = s.take a ++ ((s.take b).drop a ++ s.drop b) := by
  rw [← List.append_assoc]
  have : s.take a ++ (s.take b).drop a = s.take b := by
    have := List.take_append_drop a (s.take b)
    rw [List.take_take, Nat.min_eq_left h1] at this
    exact this
  rw [this, List.take_append_drop]
theorem sortI_perm {f : Nat → Nat} {s : List Nat} {a b : Nat} (h1 : a ≤ b) : (sortI f s a b).Perm s := by
  unfold sortI
  refine List.Perm.trans ?_ (.of_eq (mid_split (s := s) h1).symm)
  exact List.Perm.append_left _ (List.Perm.append_right _ (isort_perm f _))
theorem sort20 {f : Nat → Nat} {s : List Nat} (h : s.length = 20) : sortI f (sortI f s 0 20) 20 s.length = isort f s := by
  rw [h, sortI_nil (by rw [(sortI_perm (f := f) (s := s) (a := 0) (b := 20) (by omega)).length_eq]; omega)]
  have := sortI_all f s
  rw [h] at this
  exact this
attribute [local irreducible] isort
instance {L R1 R2 : List Assn} {k rn a b : Nat} {a9 : Option Addr} {x y : Int} {s ps : List Nat} {tk : Nat → Tk} [hs : SlAt L (.slice a9 rn k) 61 1 rn (s.map pv) R1] [hx : Nn x a] [hy : Nn y b] [h4 : ObjAt R1 Tk tkV 65 ps tk R2] : FnR Try.prog 54 [.slice a9 rn k, .int .i64 x, .int .i64 y, .func (.func 33) #[] #[]] L (fun q => Vc (rn = s.length ∧ a ≤ b ∧ b ≤ s.length ∧ (∀ q ∈ s, q ∈ ps) ∧ s.length < 1000000000) (q (asResult []) (sl 61 1 (.slice a9 rn k) rn ((sortI (fun q => (tk q).un) s a b).map pv) :: objF tkV 65 ps tk :: R2))) :=
  ⟨fun q h => by
    obtain ⟨⟨rfl, hab, hb, hr, hl⟩, hq⟩ := h
    have := ins_spec k a9 s (s.take a) ((s.take b).drop a) (s.drop b) ps tk (mid_split hab) hr hl
    have e1 : (s.take a).length = a := by rw [List.length_take]; omega
    have e2 : ((s.take b).drop a).length = b - a := by rw [List.length_drop, List.length_take]; omega
    rw [e2, e1, show a + (b - a) = b by omega, ← hx.h, ← hy.h] at this
    refine ⟨_, R2, _, this, .cons hs.h (.cons h4.h (.nil _)), fun v L' hv => ?_⟩
    rw [hv.1, hv.2]; exact hq⟩
theorem stab_lt (k : Nat) (a9 : Option Addr) (s ps : List Nat) (tk : Nat → Tk) (hr : ∀ q ∈ s, q ∈ ps) (h20 : s.length < 20) :
    Sat Try.prog 50 [.slice a9 s.length k, .int .i64 (s.length : Nat), .func (.func 33) #[] #[]] [sl 61 1 (.slice a9 s.length k) s.length ((s).map pv), objF tkV 65 ps tk] (fun u L' => u = asResult [] ∧ L' = [sl 61 1 (.slice a9 s.length k) s.length ((isort (fun q => (tk q).un) s).map pv), objF tkV 65 ps tk]) := by
  all_goals
    refine Sat.enter Try.func50 rfl Try.ntmps50 rfl (fun c R => ?_)
    try simp only [List.cons_append, List.nil_append]
    repeat' (first
      | refine T.unb 0 2 ?_
      | refine T.unb 2 2 ?_
      | (refine Vc.mk ⟨rfl, by omega, by omega, hr, by omega⟩ ?_)
      | (rw [sortI_all]; exact Fini.of ⟨rfl, rfl⟩ (by repeat first | exact Imp.refl _ | (apply Imp.pull; focus ((repeat first | exact Del.head _ _ | apply Del.tail); done)) | apply Imp.drop))
      | exact trivial
      | omega
      | (dsimp only; omega)
      | refine And.intro (fun hc => ?_) (fun hc => ?_)
      | refine And.intro ?_ ?_
      | intro b
      | refine stp ?_
      | refine TQ.finC ?_
      | refine TQ.finC2 ?_
      | refine TQ.finC3 ?_
      | refine ⟨fun hc => ?_, fun hc => ?_⟩
      | refine Ei.f ?_
      | refine ⟨?_, ?_⟩
      | intro b
      | fail)
theorem stab_20 (k : Nat) (a9 : Option Addr) (s ps : List Nat) (tk : Nat → Tk) (hr : ∀ q ∈ s, q ∈ ps) (h20 : s.length = 20) :
    Sat Try.prog 50 [.slice a9 s.length k, .int .i64 (s.length : Nat), .func (.func 33) #[] #[]] [sl 61 1 (.slice a9 s.length k) s.length ((s).map pv), objF tkV 65 ps tk] (fun u L' => u = asResult [] ∧ L' = [sl 61 1 (.slice a9 s.length k) s.length ((isort (fun q => (tk q).un) s).map pv), objF tkV 65 ps tk]) := by
  all_goals
    refine Sat.enter Try.func50 rfl Try.ntmps50 rfl (fun c R => ?_)
    try simp only [List.cons_append, List.nil_append]
    repeat' (first
      | refine T.unb 0 3 ?_
      | refine T.unb 2 3 ?_
      | (refine Vc.mk ⟨rfl, by omega, by omega, hr, by omega⟩ ?_)
      | (refine Vc.mk ⟨by rw [(sortI_perm (f := (fun q => (tk q).un)) (s := s) (a := 0) (b := 20) (by omega)).length_eq], by omega, by rw [(sortI_perm (f := (fun q => (tk q).un)) (s := s) (a := 0) (b := 20) (by omega)).length_eq]; omega, fun q hq => hr q ((sortI_perm (f := (fun q => (tk q).un)) (s := s) (a := 0) (b := 20) (by omega)).mem_iff.1 hq), by rw [(sortI_perm (f := (fun q => (tk q).un)) (s := s) (a := 0) (b := 20) (by omega)).length_eq]; omega⟩ ?_)
      | (rw [sort20 h20]; exact Fini.of ⟨rfl, rfl⟩ (by repeat first | exact Imp.refl _ | (apply Imp.pull; focus ((repeat first | exact Del.head _ _ | apply Del.tail); done)) | apply Imp.drop))
      | exact trivial
      | omega
      | (dsimp only; omega)
      | refine And.intro (fun hc => ?_) (fun hc => ?_)
      | refine And.intro ?_ ?_
      | intro b
      | refine stp ?_
      | refine TQ.finC ?_
      | refine TQ.finC2 ?_
      | refine TQ.finC3 ?_
      | refine ⟨fun hc => ?_, fun hc => ?_⟩
      | refine Ei.f ?_
      | refine ⟨?_, ?_⟩
      | intro b
      | fail)
theorem stab_le (k : Nat) (a9 : Option Addr) (s ps : List Nat) (tk : Nat → Tk) (hr : ∀ q ∈ s, q ∈ ps) (h20 : s.length ≤ 20) : Sat Try.prog 50 [.slice a9 s.length k, .int .i64 (s.length : Nat), .func (.func 33) #[] #[]] [sl 61 1 (.slice a9 s.length k) s.length ((s).map pv), objF tkV 65 ps tk] (fun u L' => u = asResult [] ∧ L' = [sl 61 1 (.slice a9 s.length k) s.length ((isort (fun q => (tk q).un) s).map pv), objF tkV 65 ps tk]) := by
  rcases Nat.lt_or_eq_of_le h20 with h | h
  · exact stab_lt k a9 s ps tk hr h
  · exact stab_20 k a9 s ps tk hr h
instance {L R1 R2 : List Assn} {k rn : Nat} {a9 : Option Addr} {x : Int} {n : Nat} {s ps : List Nat} {tk : Nat → Tk} [hs : SlAt L (.slice a9 rn k) 61 1 rn (s.map pv) R1] [hx : Nn x n] [h4 : ObjAt R1 Tk tkV 65 ps tk R2] : FnR Try.prog 50 [.slice a9 rn k, .int .i64 x, .func (.func 33) #[] #[]] L (fun q => Vc (rn = s.length ∧ n = s.length ∧ s.length ≤ 20 ∧ (∀ q ∈ s, q ∈ ps)) (q (asResult []) (sl 61 1 (.slice a9 rn k) rn ((isort (fun q => (tk q).un) s).map pv) :: objF tkV 65 ps tk :: R2))) :=
  ⟨fun q h => by
    obtain ⟨⟨rfl, rfl, hb, hr⟩, hq⟩ := h
    have := stab_le k a9 s ps tk hr hb
    rw [← hx.h] at this
    refine ⟨_, R2, _, this, .cons hs.h (.cons h4.h (.nil _)), fun v L' hv => ?_⟩
    rw [hv.1, hv.2]; exact hq⟩
theorem sort_le (k : Nat) (a9 : Option Addr) (s ps : List Nat) (tk : Nat → Tk) (hr : ∀ q ∈ s, q ∈ ps) (h20 : s.length ≤ 20) :
    Sat Try.prog 32 [.slice a9 s.length k, .func (.func 33) #[] #[]] [sl 61 1 (.slice a9 s.length k) s.length ((s).map pv), objF tkV 65 ps tk] (fun u L' => u = asResult [] ∧ L' = [sl 61 1 (.slice a9 s.length k) s.length ((isort (fun q => (tk q).un) s).map pv), objF tkV 65 ps tk]) := by
  all_goals
    refine Sat.enter Try.func32 rfl Try.ntmps32 rfl (fun c R => ?_)
    try simp only [List.cons_append, List.nil_append]
    repeat' (first
      | (refine Vc.mk ⟨rfl, rfl, h20, hr⟩ ?_)
      | (exact Fini.of ⟨rfl, rfl⟩ (by repeat first | exact Imp.refl _ | (apply Imp.pull; focus ((repeat first | exact Del.head _ _ | apply Del.tail); done)) | apply Imp.drop))
      | exact trivial
      | omega
      | (dsimp only; omega)
      | refine And.intro (fun hc => ?_) (fun hc => ?_)
      | refine And.intro ?_ ?_
      | intro b
      | refine stp ?_
      | refine TQ.finC ?_
      | refine TQ.finC2 ?_
      | refine TQ.finC3 ?_
      | refine ⟨fun hc => ?_, fun hc => ?_⟩
      | refine Ei.f ?_
      | refine ⟨?_, ?_⟩
      | intro b
      | fail)
instance {L R1 R2 : List Assn} {k rn : Nat} {a9 : Option Addr} {s ps : List Nat} {tk : Nat → Tk} [hs : SlAt L (.slice a9 rn k) 61 1 rn (s.map pv) R1] [h4 : ObjAt R1 Tk tkV 65 ps tk R2] : FnR Try.prog 32 [.slice a9 rn k, .func (.func 33) #[] #[]] L (fun q => Vc (rn = s.length ∧ s.length ≤ 20 ∧ (∀ q ∈ s, q ∈ ps)) (q (asResult []) (sl 61 1 (.slice a9 rn k) rn ((isort (fun q => (tk q).un) s).map pv) :: objF tkV 65 ps tk :: R2))) :=
  ⟨fun q h => by
    obtain ⟨⟨rfl, hb, hr⟩, hq⟩ := h
    refine ⟨_, R2, _, sort_le k a9 s ps tk hr hb, .cons hs.h (.cons h4.h (.nil _)), fun v L' hv => ?_⟩
    rw [hv.1, hv.2]; exact hq⟩

end Go.Proofs.Ytcicmlmfnjkekaa


namespace Go.Proofs.Ytcicmlmfnjkekaa
open Go Pw
set_option maxRecDepth 20000
set_option maxHeartbeats 4000000
set_option synthInstance.maxHeartbeats 400000
set_option synthInstance.maxSize 4000
set_option maxHeartbeats 1000000

theorem runF_cases (st : Nat → Nat → Bool × Nat) : ∀ (l : List Nat) (z : List Nat × List Nat × Nat), ∃ X Y, (l.foldl (stpF st) z).1 = z.1 ++ X ∧ (l.foldl (stpF st) z).2.1 = z.2.1 ++ Y ∧ X.Sublist l ∧ Y.Sublist l ∧ (X ++ Y).Perm l
  | [], z => ⟨[], [], by simp, by simp, .refl _, .refl _, .refl _⟩
  | t :: l, z => by
    rw [List.foldl_cons]
    obtain ⟨X, Y, h1, h2, h3, h4, h5⟩ := runF_cases st l (stpF st z t)
    rcases hb : (st z.2.2 t).1 with _ | _
    · refine ⟨X, t :: Y, ?_, ?_, h3.cons t, h4.cons_cons t, ?_⟩
      · rw [h1]; show addIf (st z.2.2 t).1 z.1 t ++ X = _; rw [hb]; rfl
      · rw [h2]; show addIf (!(st z.2.2 t).1) z.2.1 t ++ Y = _; rw [hb]; show (z.2.1 ++ [t]) ++ Y = _; simp
      · exact List.perm_middle.trans (h5.cons t)
    · refine ⟨t :: X, Y, ?_, ?_, h3.cons_cons t, h4.cons t, ?_⟩
      · rw [h1]; show addIf (st z.2.2 t).1 z.1 t ++ X = _; rw [hb]; show (z.1 ++ [t]) ++ X = _; simp
      · rw [h2]; show addIf (!(st z.2.2 t).1) z.2.1 t ++ Y = _; rw [hb]; rfl
      · exact h5.cons t
theorem runF_sub (st : Nat → Nat → Bool × Nat) (n : Nat) (l : List Nat) : (runF st n l).1.Sublist l ∧ (runF st n l).2.1.Sublist l ∧ ((runF st n l).1 ++ (runF st n l).2.1).Perm l := by
  obtain ⟨X, Y, h1, h2, h3, h4, h5⟩ := runF_cases st l ([], [], n)
  unfold runF
  rw [h1, h2]
  exact ⟨h3, h4, h5⟩
def Sc.wakeR (S : Sc) (q : Nat) (most : Int) : List Nat × List Nat × Nat := runF (stepW q most S.tk) 0 S.waits
def Sc.wake (S : Sc) (q : Nat) (most : Int) : Sc := { S with waits := (S.wakeR q most).2.1, row := S.row ++ (S.wakeR q most).1, tk := rdyL false S.tk (S.wakeR q most).1 }
def Sc.tickR (S : Sc) (t : Nat) : List Nat × List Nat × Nat := runF (stepT t S.tk) 0 S.waits
def Sc.tick (S : Sc) (t : Nat) : Sc × Nat := if t < S.now ∨ 4611686018427387904 ≤ t then (S, 2) else ({ S with now := t, waits := (S.tickR t).2.1, row := S.row ++ isort (fun q => (S.tk q).un) (S.tickR t).1, tk := rdyL true S.tk (isort (fun q => (S.tk q).un) (S.tickR t).1) }, 0)
theorem tick_2 {S : Sc} {t : Nat} (h : t < S.now ∨ 4611686018427387904 ≤ t) : S.tick t = (S, 2) := if_pos h
theorem tick_0 {S : Sc} {t : Nat} (h : ¬ (t < S.now ∨ 4611686018427387904 ≤ t)) : S.tick t = ({ S with now := t, waits := (S.tickR t).2.1, row := S.row ++ isort (fun q => (S.tk q).un) (S.tickR t).1, tk := rdyL true S.tk (isort (fun q => (S.tk q).un) (S.tickR t).1) }, 0) := if_neg h
attribute [local irreducible] stepW stepT runF isort
instance {Ra Rb R0 R1 R2 R3 L : List Assn} {x y : Int} {n : Nat} {k p rn : Nat} {a : Option Addr} {v0 v1 v2 v4 v5 : Value} {bq bn bm qq : Nat} {most : Int} {s ps : List Nat} {tk : Nat → Tk} [hrw : RowDel L p 63 [v0, v1, v2, .slice a rn k, v4, v5] Ra] [hs : SlAt Ra (.slice a rn k) 61 1 rn (s.map pv) Rb] [hx : Nn x qq] [hy : Nn y n] [h0 : RowDel Rb bq 29 [.int .u32 x] R0] [h1 : RowDel R0 bn 3 [.int .i64 y] R1] [h2 : RowDel R1 bm 3 [.int .i64 most] R2] [h4 : ObjAt R2 Tk tkV 65 ps tk R3] : FnR Try.prog 30 [.pointer (some ⟨p, 0, none⟩), .func (.func 38) #[] #[.pointer (some ⟨bq, 0, none⟩), .pointer (some ⟨bn, 0, none⟩), .pointer (some ⟨bm, 0, none⟩)]] L (fun q => Vc (rn = s.length ∧ (∀ q ∈ s, q ∈ ps) ∧ n + s.length < 1000000000 ∧ s.length < 1000000000) (∀ a2 k2, q (.slice a2 (runF (stepW qq most tk) n s).1.length k2) (Pw.row 63 p [v0, v1, v2, .slice a (runF (stepW qq most tk) n s).2.1.length k, v4, v5] :: sl 61 1 (.slice a (runF (stepW qq most tk) n s).2.1.length k) (runF (stepW qq most tk) n s).2.1.length ((runF (stepW qq most tk) n s).2.1.map pv) :: sl 61 1 (.slice a2 (runF (stepW qq most tk) n s).1.length k2) (runF (stepW qq most tk) n s).1.length ((runF (stepW qq most tk) n s).1.map pv) :: Pw.row 29 bq [.int .u32 (qq : Nat)] :: Pw.row 3 bn [.int .i64 ((runF (stepW qq most tk) n s).2.2 : Nat)] :: Pw.row 3 bm [.int .i64 most] :: objF tkV 65 ps tk :: R3))) :=
  ⟨fun q h => by
    obtain ⟨⟨rfl, hp, hn, hl⟩, hq1⟩ := h
    refine ⟨_, R3, _, wakes_w n k p a v0 v1 v2 v4 v5 bq bn bm qq most s ps tk hp hn hl, .cons hrw.h (.cons hs.h (.cons (by have := h0.h; rw [hx.h] at this; exact this) (.cons (by have := h1.h; rw [hy.h] at this; exact this) (.cons h2.h (.cons h4.h (.nil _)))))), fun v L' hv => ?_⟩
    obtain ⟨a2, k2, e1, e2⟩ := hv
    rw [e1, e2]; exact hq1 a2 k2⟩
instance {Ra Rb R2 R3 L : List Assn} {x : Int} {k p rn : Nat} {a : Option Addr} {v0 v1 v2 v4 v5 : Value} {bq qq : Nat} {s ps : List Nat} {tk : Nat → Tk} [hrw : RowDel L p 63 [v0, v1, v2, .slice a rn k, v4, v5] Ra] [hs : SlAt Ra (.slice a rn k) 61 1 rn (s.map pv) Rb] [hx : Nn x qq] [h0 : RowDel Rb bq 33 [.int .u64 x] R2] [h4 : ObjAt R2 Tk tkV 65 ps tk R3] : FnR Try.prog 30 [.pointer (some ⟨p, 0, none⟩), .func (.func 31) #[] #[.pointer (some ⟨bq, 0, none⟩)]] L (fun q => Vc (rn = s.length ∧ (∀ q ∈ s, q ∈ ps) ∧ s.length < 1000000000) (∀ a2 k2, q (.slice a2 (runF (stepT qq tk) 0 s).1.length k2) (Pw.row 63 p [v0, v1, v2, .slice a (runF (stepT qq tk) 0 s).2.1.length k, v4, v5] :: sl 61 1 (.slice a (runF (stepT qq tk) 0 s).2.1.length k) (runF (stepT qq tk) 0 s).2.1.length ((runF (stepT qq tk) 0 s).2.1.map pv) :: sl 61 1 (.slice a2 (runF (stepT qq tk) 0 s).1.length k2) (runF (stepT qq tk) 0 s).1.length ((runF (stepT qq tk) 0 s).1.map pv) :: Pw.row 33 bq [.int .u64 (qq : Nat)] :: objF tkV 65 ps tk :: R3))) :=
  ⟨fun q h => by
    obtain ⟨⟨rfl, hp, hl⟩, hq1⟩ := h
    refine ⟨_, R3, _, wakes_t 0 k p a v0 v1 v2 v4 v5 bq qq s ps tk hp hl, .cons hrw.h (.cons hs.h (.cons (by have := h0.h; rw [hx.h] at this; exact this) (.cons h4.h (.nil _)))), fun v L' hv => ?_⟩
    obtain ⟨a2, k2, e1, e2⟩ := hv
    rw [e1, e2]; exact hq1 a2 k2⟩
theorem wake_spec (p n : Nat) (most : Int) (S : Sc) (hS : S.ok) :
    Sat Try.prog 15 [.pointer (some ⟨p, 0, none⟩), .int .u32 (n : Nat), .int .i64 most] [scA p S] (fun u L' => u = .int .i64 ((S.wakeR n most).2.2 : Nat) ∧ L' = [scA p (S.wake n most)]) := by
  obtain ⟨pat, tm, rw_, wt, rn, nw, ps, tk⟩ := S
  have hm := hS.map
  refine Sat.openA1 ?_
  rintro ⟨m, a, k, b, l⟩ -
  have hrl := hS.rl
  have hro := hS.row
  have hwt := hS.waits
  have htv := hS.tv
  have hpa := hS.pat
  have hru := hS.runs
  dsimp only [scL] at *
  all_goals
    refine Sat.enter Try.func15 rfl Try.ntmps15 rfl (fun c R => ?_)
    try simp only [List.cons_append, List.nil_append]
    repeat' (first
      | (refine Vc.mk ⟨rfl, hwt, by omega, by omega⟩ ?_)
      | (refine Vc.mk ⟨rfl, hwt, by omega⟩ ?_)
      | (refine Vc.mk ⟨rfl, rfl, fun q hq => hwt q ((runF_sub _ _ _).1.mem hq), by have := (runF_sub (stepW n most tk) 0 wt).1.length_le; omega⟩ ?_)
      | (exact Fini.of ⟨rfl, rfl⟩ (by exact (Imp.sc ⟨m, _, _, _, _⟩ (by repeat first | exact Imp.refl _ | (apply Imp.pull; focus ((repeat first | exact Del.head _ _ | apply Del.tail); done)) | apply Imp.drop))))
      | exact trivial
      | omega
      | (dsimp only; omega)
      | exact List.length_map _
      | exact (rfl : (61 : Nat) = 61)
      | (rw [List.length_map, Nat.mul_one])
      | refine And.intro (fun hc => ?_) (fun hc => ?_)
      | refine And.intro ?_ ?_
      | intro b
      | refine stp ?_
      | refine TQ.finCp ?_
      | refine TQ.finC2 ?_
      | refine TQ.finC3 ?_
      | refine ⟨fun hc => ?_, fun hc => ?_⟩
      | refine Ei.f ?_
      | refine ⟨?_, ?_⟩
      | intro b
      | fail)
theorem tick_spec (p n : Nat) (S : Sc) (hS : S.ok) (h20 : S.waits.length ≤ 20) :
    Sat Try.prog 11 [.pointer (some ⟨p, 0, none⟩), .int .u64 (n : Nat)] [scA p S] (fun u L' => u = .int .i64 ((S.tick n).2 : Nat) ∧ L' = [scA p (S.tick n).1]) := by
  obtain ⟨pat, tm, rw_, wt, rn, nw, ps, tk⟩ := S
  have hm := hS.map
  refine Sat.openA1 ?_
  rintro ⟨m, a, k, b, l⟩ -
  have hrl := hS.rl
  have hro := hS.row
  have hwt := hS.waits
  have htv := hS.tv
  have hpa := hS.pat
  have hru := hS.runs
  dsimp only [scL] at *
  all_goals
    refine Sat.enter Try.func11 rfl Try.ntmps11 rfl (fun c R => ?_)
    try simp only [List.cons_append, List.nil_append]
    repeat' (first
      | (refine Vc.mk ⟨rfl, hwt, by omega, by omega⟩ ?_)
      | (refine Vc.mk ⟨rfl, hwt, by omega⟩ ?_)
      | (refine Vc.mk ⟨rfl, by have := (runF_sub (stepT n tk) 0 wt).1.length_le; omega, fun q hq => hwt q ((runF_sub _ _ _).1.mem hq)⟩ ?_)
      | (refine Vc.mk ⟨rfl, by rw [(isort_perm _ _).length_eq], fun q hq => hwt q ((runF_sub _ _ _).1.mem ((isort_perm _ _).mem_iff.1 hq)), by rw [(isort_perm _ _).length_eq]; have := (runF_sub (stepT n tk) 0 wt).1.length_le; omega⟩ ?_)
      | (exact Fini.of ⟨by rw [tick_2 (S := ⟨pat, tm, rw_, wt, rn, nw, ps, tk⟩) (t := n) (by dsimp only; omega)]; rfl, by rw [tick_2 (S := ⟨pat, tm, rw_, wt, rn, nw, ps, tk⟩) (t := n) (by dsimp only; omega)]⟩ (by exact (Imp.sc ⟨m, _, _, _, _⟩ (by repeat first | exact Imp.refl _ | (apply Imp.pull; focus ((repeat first | exact Del.head _ _ | apply Del.tail); done)) | apply Imp.drop))))
      | (exact Fini.of ⟨by rw [tick_0 (S := ⟨pat, tm, rw_, wt, rn, nw, ps, tk⟩) (t := n) (by dsimp only; omega)]; rfl, by rw [tick_0 (S := ⟨pat, tm, rw_, wt, rn, nw, ps, tk⟩) (t := n) (by dsimp only; omega)]⟩ (by exact (Imp.sc ⟨m, _, _, _, _⟩ (by repeat first | exact Imp.refl _ | (apply Imp.pull; focus ((repeat first | exact Del.head _ _ | apply Del.tail); done)) | apply Imp.drop))))
      | exact trivial
      | omega
      | (dsimp only; omega)
      | exact List.length_map _
      | exact (rfl : (61 : Nat) = 61)
      | (rw [List.length_map, Nat.mul_one])
      | refine T.pl 3 [] (.p 1 (.p 2 (.d 0 (.d 3 (.d 4 (.p 5 (.p 6 (.d 7 (.p 8 (.p 9 (.p 10 .fin))))))))))) ?_
      | refine And.intro (fun hc => ?_) (fun hc => ?_)
      | refine And.intro ?_ ?_
      | intro b
      | refine stp ?_
      | refine TQ.finCp ?_
      | refine TQ.finC2 ?_
      | refine TQ.finC3 ?_
      | refine ⟨fun hc => ?_, fun hc => ?_⟩
      | refine Ei.f ?_
      | refine ⟨?_, ?_⟩
      | intro b
      | fail)

end Go.Proofs.Ytcicmlmfnjkekaa


namespace Go.Proofs.Ytcicmlmfnjkekaa
open Go Pw
set_option maxRecDepth 20000
set_option maxHeartbeats 4000000
set_option synthInstance.maxHeartbeats 400000
set_option synthInstance.maxSize 4000
set_option maxHeartbeats 1000000

abbrev w32 (n : Nat) : Value := .int .u32 (n : Nat)
instance {n : Nat} : Inv w32 (.int .u32 (n : Nat)) n True := ⟨fun _ => rfl⟩
def Sc.ready (S : Sc) : List Nat := S.row.map (fun q => (S.tk q).id)
theorem gt_ready {S : Sc} {j : Nat} (h : j < S.row.length) : gt S.ready j = (S.tk (gt S.row j)).id := by
  unfold Sc.ready gt
  rw [List.getD_eq_getElem?_getD, List.getD_eq_getElem?_getD, List.getElem?_map, List.getElem?_eq_getElem h]; rfl
theorem ready_len {S : Sc} : S.ready.length = S.row.length := List.length_map _
def nextS (tk : Nat → Tk) (m q : Nat) : Nat := if (tk q).un ≠ 0 ∧ (m = 0 ∨ (tk q).un < m) then (tk q).un else m
def nextF (tk : Nat → Tk) (l : List Nat) : Nat := l.foldl (nextS tk) 0
theorem nextF_next {tk : Nat → Tk} {l : List Nat} {j : Nat} (h : j < l.length) : nextF tk (l.take (j + 1)) = nextS tk (nextF tk (l.take j)) (gt l j) := by
  rw [take_gt h, nextF, List.foldl_append]; rfl
theorem nextS_t {tk : Nat → Tk} {m q : Nat} (h : (tk q).un ≠ 0 ∧ (m = 0 ∨ (tk q).un < m)) : nextS tk m q = (tk q).un := if_pos h
theorem nextS_f {tk : Nat → Tk} {m q : Nat} (h : ¬ ((tk q).un ≠ 0 ∧ (m = 0 ∨ (tk q).un < m))) : nextS tk m q = m := if_neg h
attribute [local irreducible] Sc.ready
theorem ready18_spec (p : Nat) (S : Sc) (hS : S.ok) :
    Sat Try.prog 18 [.pointer (some ⟨p, 0, none⟩)] [scA p S] (fun u L' => ∃ a k, u = .slice a S.row.length k ∧ L' = [scA p S, sl 29 1 (.slice a S.row.length k) S.row.length (S.ready.map w32)]) := by
  obtain ⟨pat, tm, rw_, wt, rn, nw, ps, tk⟩ := S
  have hm := hS.map
  refine Sat.openA1 ?_
  rintro ⟨m, a, k, b, l⟩ -
  have hrl := hS.rl
  have hro := hS.row
  have hwt := hS.waits
  have htv := hS.tv
  have hpa := hS.pat
  have hru := hS.runs
  dsimp only [scL] at *
  all_goals
    refine Sat.enter Try.func18 rfl Try.ntmps18 rfl (fun c R => ?_)
    try simp only [List.cons_append, List.nil_append]
    repeat' (first
      | (refine T.atB 0 ?_; refine T.ent (Ent.imp (show Imp _ (sl 29 1 (.slice none 0 0) 0 ((((⟨pat, tm, rw_, wt, rn, nw, ps, tk⟩ : Sc).ready).take 0).map w32) :: _) from (by rw [List.take_zero]; exact Imp.slN (Imp.refl _)))) ?_; refine T.lpa 0 [(0, _), (11, _), (12, _)] ((0, (none, 0)) : Nat × (Option Addr × Nat)) (fun z => [(3, .slice z.2.1 z.1 z.2.2), (13, .int .i64 (z.1 : Nat))]) (fun z => [sl 29 1 (.slice z.2.1 z.1 z.2.2) z.1 ((((⟨pat, tm, rw_, wt, rn, nw, ps, tk⟩ : Sc).ready).take z.1).map w32)]) (fun z => z.1 ≤ rw_.length) (fun z => rw_.length - z.1) (Nat.zero_le _) ?_; rintro ⟨j, ⟨a1, k1⟩⟩ g hI; dsimp only at hI ⊢; have hil : (((⟨pat, tm, rw_, wt, rn, nw, ps, tk⟩ : Sc).ready).take j).length = j := (by rw [List.length_take, ready_len]; dsimp only; omega); simp only [List.cons_append, List.nil_append, appR])
      | (refine TQ.atL ?_; rename_i a4; have hj : j < rw_.length := (by omega); have e2 : ((⟨pat, tm, rw_, wt, rn, nw, ps, tk⟩ : Sc).ready).take j ++ [(tk (gt rw_ j)).id] = ((⟨pat, tm, rw_, wt, rn, nw, ps, tk⟩ : Sc).ready).take (j + 1) := (by rw [take_gt (by rw [ready_len]; exact hj), gt_ready hj]); rw [e2]; refine TQ.rd ((j + 1, (a4, b)) : Nat × (Option Addr × Nat)) rfl ⟨rfl, rfl, rfl, rfl, rfl, trivial⟩ (by dsimp only; omega) (by dsimp only; omega) (Ent.imp (by repeat first | exact Imp.refl _ | (apply Imp.pull; focus ((repeat first | exact Del.head _ _ | apply Del.tail); done)) | apply Imp.drop)))
      | (have ej : j = rw_.length := (by omega); subst ej; rw [List.take_of_length_le (by rw [ready_len]; exact Nat.le_refl _)]; exact Fini.of ⟨_, _, rfl, rfl⟩ (by exact (Imp.sc ⟨m, _, _, _, _⟩ (by repeat first | exact Imp.refl _ | (apply Imp.pull; focus ((repeat first | exact Del.head _ _ | apply Del.tail); done)) | apply Imp.drop))))
      | (rw [List.length_map]; exact hil)
      | (rw [List.length_map, hil])
      | exact trivial
      | omega
      | (dsimp only; omega)
      | exact List.length_map _
      | exact (rfl : (29 : Nat) = 29)
      | (rw [List.length_map, Nat.mul_one])
      | exact hro _ (gt_mem (by omega))
      | exact hwt _ (gt_mem (by omega))
      | refine And.intro (fun hc => ?_) (fun hc => ?_)
      | refine And.intro ?_ ?_
      | intro b
      | refine stp ?_
      | refine TQ.finC ?_
      | refine TQ.finC2 ?_
      | refine TQ.finC3 ?_
      | refine ⟨fun hc => ?_, fun hc => ?_⟩
      | refine Ei.f ?_
      | refine ⟨?_, ?_⟩
      | intro b
      | fail)
theorem next_spec (p : Nat) (S : Sc) (hS : S.ok) :
    Sat Try.prog 22 [.pointer (some ⟨p, 0, none⟩)] [scA p S] (fun u L' => u = asResult [.int .u64 (nextF S.tk S.waits : Nat), .bool (decide (nextF S.tk S.waits ≠ 0))] ∧ L' = [scA p S]) := by
  obtain ⟨pat, tm, rw_, wt, rn, nw, ps, tk⟩ := S
  have hm := hS.map
  refine Sat.openA1 ?_
  rintro ⟨m, a, k, b, l⟩ -
  have hrl := hS.rl
  have hro := hS.row
  have hwt := hS.waits
  have htv := hS.tv
  have hpa := hS.pat
  have hru := hS.runs
  dsimp only [scL] at *
  all_goals
    refine Sat.enter Try.func22 rfl Try.ntmps22 rfl (fun c R => ?_)
    try simp only [List.cons_append, List.nil_append]
    repeat' (first
      | (refine T.atB 0 ?_; refine T.lpa 0 [(0, _), (12, _), (13, _)] (0 : Nat) (fun z => [(4, .int .u64 ((nextF tk (wt.take z) : Nat) : Int)), (14, .int .i64 (z : Nat))]) (fun z => []) (fun z => z ≤ wt.length) (fun z => wt.length - z) (Nat.zero_le _) ?_; rintro j g hI; (try dsimp only at hI ⊢); simp only [List.cons_append, List.nil_append, appR])
      | (refine TQ.atL ?_; have hj : j < wt.length := (by omega); refine TQ.rd (j + 1) rfl ⟨by rw [nextF_next hj, nextS_t (by omega)]; rfl, rfl, rfl, rfl, rfl, trivial⟩ (by omega) (by omega) (Ent.imp (by repeat first | exact Imp.refl _ | (apply Imp.pull; focus ((repeat first | exact Del.head _ _ | apply Del.tail); done)) | apply Imp.drop)))
      | (refine TQ.atL ?_; have hj : j < wt.length := (by omega); refine TQ.rd (j + 1) rfl ⟨by rw [nextF_next hj, nextS_f (by omega)]; rfl, rfl, rfl, rfl, rfl, trivial⟩ (by omega) (by omega) (Ent.imp (by repeat first | exact Imp.refl _ | (apply Imp.pull; focus ((repeat first | exact Del.head _ _ | apply Del.tail); done)) | apply Imp.drop)))
      | (have ej : j = wt.length := (by omega); subst ej; rw [List.take_length]; exact Fini.of ⟨by first | rfl | (congr 1), rfl⟩ (by exact (Imp.sc ⟨m, _, _, _, _⟩ (by repeat first | exact Imp.refl _ | (apply Imp.pull; focus ((repeat first | exact Del.head _ _ | apply Del.tail); done)) | apply Imp.drop))))
      | exact trivial
      | omega
      | (dsimp only; omega)
      | exact List.length_map _
      | exact (rfl : (29 : Nat) = 29)
      | (rw [List.length_map, Nat.mul_one])
      | exact hro _ (gt_mem (by omega))
      | exact hwt _ (gt_mem (by omega))
      | refine And.intro (fun hc => ?_) (fun hc => ?_)
      | refine And.intro ?_ ?_
      | intro b
      | refine stp ?_
      | refine TQ.finC ?_
      | refine TQ.finC2 ?_
      | refine TQ.finC3 ?_
      | refine ⟨fun hc => ?_, fun hc => ?_⟩
      | refine Ei.f ?_
      | refine ⟨?_, ?_⟩
      | intro b
      | fail)

end Go.Proofs.Ytcicmlmfnjkekaa

