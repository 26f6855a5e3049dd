/- Lemmas for the proofs of this seat: no statement of the seat is claimed here. -/
import Derived.Test.YtcicmlmfnjkekaaSa
import Derived.Test.YtcicmlmfnjkekaaKm
set_option linter.all false

namespace Go.Proofs.Ytcicmlmfnjkekaa
open Go Pw
set_option maxRecDepth 20000
set_option maxHeartbeats 4000000
set_option synthInstance.maxHeartbeats 400000
set_option synthInstance.maxSize 4000
set_option maxHeartbeats 2000000

instance {n : Nat} : Inv vU8 (.int .u8 ((n : Nat) : Int)) n True := ⟨fun _ => rfl⟩
/-- The states of the first ones. -/
def befE (A : Ab) (j : Nat) : List Nat := (List.range 6).map fun i => if i < j then A.state i else 0
theorem befE_0 (A : Ab) : befE A 0 = [0, 0, 0, 0, 0, 0] := rfl
theorem befE_len (A : Ab) (j : Nat) : (befE A j).length = 6 := by simp [befE]
theorem befE_set {A : Ab} {j : Nat} (h : j < 6) : (befE A j).set j (A.state j) = befE A (j + 1) := by
  apply List.ext_getElem
  · simp [befE]
  · intro i h1 h2
    simp only [befE, List.getElem_set, List.getElem_map, List.getElem_range]
    by_cases e : j = i
    · rw [if_pos e, if_pos (by omega), e]
    · rw [if_neg e]
      by_cases h : i < j
      · rw [if_pos h, if_pos (by omega)]
      · rw [if_neg h, if_neg (by omega)]
theorem befE_at {A : Ab} {j : Nat} (h : j < 6) : gt (befE A 6) j = A.state j := by
  have h2 : j < (befE A 6).length := by rw [befE_len]; exact h
  have := gt_get h2
  rw [List.getElem?_eq_getElem h2] at this
  rw [← Option.some.inj this]
  simp only [befE, List.getElem_map, List.getElem_range, if_pos h]
theorem state_lt {A : Ab} {k n : Nat} (h : A.fit k) : A.state n ≤ 3 := by
  by_cases h0 : A.t n = none
  · have : A.state n = 0 := by unfold Ab.state; rw [h0]
    omega
  · obtain ⟨x, hx⟩ := Option.ne_none_iff_exists'.1 h0
    have e : A.state n = x.st := by unfold Ab.state; rw [hx]
    rcases (t_some h hx).2 with h | h | h <;> omega

theorem sl5 {x y : Nat} (e : x = y) : Value.int .i64 (x : Int) = Value.int .i64 (y : Int) := by rw [e]
theorem sl7 {row : List Nat} {id c7 x : Nat} (h : c7 < row.length) (e : x = if gt row c7 = id then cntE (row.take c7) id + 1 else cntE (row.take c7) id) : Value.int .i64 (x : Int) = Value.int .i64 (cntE (row.take (c7 + 1)) id : Int) := by rw [cntE_next h, e]
theorem cnt_0 (l : List Nat) (id : Nat) : cntE (l.take 0) id = 0 := rfl
theorem cnt_le {l : List Nat} {id : Nat} : cntE l id ≤ l.length := by
  induction l with
  | nil => exact Nat.le_refl _
  | cons a l ih => rw [cnt_cons, List.length_cons]; split <;> omega
attribute [local irreducible] befE cntE rcnt stepP Ab.state
theorem place_spec (h : Array Obj) (l : List Stp) (a : Option Addr) (k : Nat) [hI : InpD h a 4 l.length k (l.flatMap stpV)] (hok : ∀ j, (gt l j).ok) (hl : l.length < 4611686018427387904) (pat : Nat) (hpat : pat < 256) :
    Sat Try.prog 4 [.int .u8 (pat : Nat), .slice a l.length k] [old h] (fun u L' => u = .bool true ∧ L' = [old h]) := by
  all_goals
    refine Sat.enter Try.func4 rfl Try.ntmps4 rfl (fun c R => ?_)
    try simp only [List.cons_append, List.nil_append]
    repeat' (first
      | (refine T.atB 0 ?_; obtain ⟨q, hq⟩ : ∃ x, x = b := ⟨_, rfl⟩; subst hq; refine T.lpa 0 [(1, _), (5, _)] ((0, newA (pat + 1), 0) : Nat × Ab × Nat) (fun z => [(7, .int .i64 (z.1 : Nat))]) (fun z => [abA q z.2.2 z.2.1]) (fun z => z.1 ≤ l.length ∧ z.2.2 ≤ z.1 ∧ z.2.1.now < 4611686018427387904 ∧ z.2.1.few 6) (fun z => l.length - z.1) ⟨Nat.zero_le _, Nat.zero_le _, (show 0 < 4611686018427387904 by decide), fun _ _ => rfl⟩ ?_; rintro ⟨i, A, kk⟩ g ⟨hI1, hk, hnow, hfew⟩; dsimp only at hI1 hk hnow hfew ⊢; simp only [List.cons_append, List.nil_append, appR]; refine T.fit (.head _ _) (fun hfit => ?_); have hoi := hok i; have hon := hoi.n; have hw20 := few_waits hfit hfew)
      | (refine T.atB 2 ?_; rename_i b8; obtain ⟨b9, hb9⟩ : ∃ x, x = b := ⟨_, rfl⟩; subst hb9; show T _ _ _ (Pw.row 43 b9 (([0, 0, 0, 0, 0, 0] : List Nat).map vU8) :: _) _ _ _; rw [← befE_0 A]; refine T.lpa 2 [(1, _), (5, _), (7, _), (8, _), (9, _)] (0 : Nat) (fun j => [(10, .int .u32 (j : Nat))]) (fun j => [Pw.row 43 b9 ((befE A j).map vU8)]) (fun j => j ≤ 6) (fun j => 6 - j) (Nat.zero_le _) ?_; intro j g hj; have hbl := befE_len A j; simp only [List.cons_append, List.nil_append, appR])
      | (refine T.atB 4 ?_; obtain rfl : j = 6 := (by omega); refine T.cutt 4 (fun _ : Nat => [(1, .slice a l.length k), (5, .pointer (some ⟨q, 0, none⟩)), (7, .int .i64 (i : Nat)), (8, .pointer (some ⟨b8, 0, none⟩)), (9, .pointer (some ⟨b9, 0, none⟩))]) (fun k' => abA q k' (stepP A (gt l i)) :: Pw.row 35 b8 [.int .i64 (gt l i).d, .int .u32 ((gt l i).id % 6 : Nat), .int .u64 ((gt l i).n : Nat), .int .i64 (gt l i).m] :: Pw.row 43 b9 ((befE A 6).map vU8) :: old h :: R) (fun k' => k' ≤ kk + 1) ?_ (fun k' g hk' => ?_))
      | (refine T.atB 5 ?_; refine T.fit (by repeat first | exact Del.head _ _ | apply Del.tail) (fun hf2 => ?_); have hw := fun n (hs : A.state n = 3) => stepP_w (x := (gt l i)) hfit hs; have hr6 := few_row hf2 (stepP_few hfew); refine T.lpa 5 [(1, _), (5, _), (7, _), (8, _), (9, _), (11, _)] (0 : Nat) (fun n => [(13, .int .u32 (n : Nat)), (12, .int .i64 (rcnt (stepP A (gt l i)) n : Nat))]) (fun _ => []) (fun n => n ≤ 6) (fun n => 6 - n) (Nat.zero_le _) ?_ (hsl := ⟨rfl, congrArg (fun m : Nat => Value.int .i64 (m : Int)) (rcnt_0 _).symm, trivial⟩); intro id g hid; have hb6 := fun h => befE_at (A := A) (j := id) h; have hb7 := befE_len A 6; have hrl := rcnt_le (stepP A (gt l i)) id; simp only [List.cons_append, List.nil_append, appR])
      | (refine T.atB 7 ?_; refine T.lpa 7 [(1, _), (5, _), (7, _), (8, _), (9, _), (11, _), (12, _), (13, _), (14, _)] (0 : Nat) (fun z => [(15, .int .i64 (cntE ((stepP A (gt l i)).row.take z) id : Nat)), (16, .int .i64 (z : Nat))]) (fun _ => []) (fun z => z ≤ (stepP A (gt l i)).row.length) (fun z => (stepP A (gt l i)).row.length - z) (Nat.zero_le _) ?_ (hsl := ⟨congrArg (fun m : Nat => Value.int .i64 (m : Int)) (cnt_0 _ _).symm, rfl, trivial⟩); intro c7 g hc7; have hcl : cntE ((stepP A (gt l i)).row.take c7) id ≤ 6 := Nat.le_trans cnt_le (by rw [List.length_take]; omega); simp only [List.cons_append, List.nil_append, appR])
      | (refine T.atR 43 ?_; obtain rfl : c7 = (stepP A (gt l i)).row.length := (by omega); rw [List.take_length]; have hcs := cnt_st hf2 id; have hwi := hw id; have hb8 := hb6 (by assumption); have hs3 := state_lt (n := id) hf2)
      | (refine T.atR 47 ?_; obtain rfl : id = 6 := (by omega); have hrc := rcnt_le (stepP A (gt l i)) 6)
      | (refine TQ.atL ?_; rw [befE_set (by assumption)]; refine TQ.rda (j + 1) ?_ ?_)
      | (refine TQ.atC ?_; refine TQ.cn (kk + 1 : Nat) rfl ⟨rfl, rfl, rfl, rfl, rfl, trivial⟩ (Nat.le_refl _) (Ent.imp (Imp.abP (by repeat first | exact Del.head _ _ | apply Del.tail) (by omega) (by first | exact (stepP_0 (by assumption)).symm | exact (stepP_1 (by assumption)).symm | exact (stepP_2 (by assumption)).symm | exact (stepP_3 (by assumption)).symm | exact (stepP_4 (by assumption)).symm | exact (stepP_5 (by assumption)).symm | exact (stepP_6 (by assumption)).symm | exact (stepP_7 (by assumption) (by assumption) (by assumption) (by assumption) (by assumption) (by assumption) (by assumption)).symm) (by repeat first | exact Imp.refl _ | (apply Imp.pull; focus ((repeat first | exact Del.head _ _ | apply Del.tail); done)) | apply Imp.drop))))
      | (refine TQ.atL ?_; refine TQ.rda (c7 + 1) ?_ ?_ rfl ⟨sl7 (by assumption) (by first | exact (if_pos (by assumption)).symm | exact (if_neg (by assumption)).symm), rfl, rfl, rfl, rfl, rfl, rfl, rfl, rfl, rfl, rfl, trivial⟩)
      | (refine TQ.atL ?_; refine TQ.rda (id + 1) ?_ ?_ rfl ⟨rfl, sl5 (by first | exact (rcnt_t hf2 (by assumption)).symm | exact (rcnt_f hf2 (by assumption)).symm), rfl, rfl, rfl, rfl, rfl, rfl, trivial⟩)
      | (refine TQ.atL ?_; refine TQ.rd ((i + 1, (stepP A (gt l i)), k') : Nat × Ab × Nat) rfl ⟨rfl, rfl, rfl, trivial⟩ ⟨by dsimp only; omega, by dsimp only; omega, stepP_now hnow, stepP_few hfew⟩ (by dsimp only; omega) (Ent.imp (by repeat first | exact Imp.refl _ | (apply Imp.pull; focus ((repeat first | exact Del.head _ _ | apply Del.tail); done)) | apply Imp.drop)))
      | (exact Fini.of ⟨rfl, rfl⟩ (by repeat first | exact Imp.refl _ | (apply Imp.pull; focus ((repeat first | exact Del.head _ _ | apply Del.tail); done)) | apply Imp.drop))
      | refine T.pl 24 [5, 10] (.p 0 (.p 4 (.p 1 (.p 6 (.b3 2 (.p 3 (.b2 5 (.d 7 (.p 8 (.p 9 (.n 10 .fin)))) 7 (.p 8 (.n 5 (.p 9 (.n 10 .fin)))))) 5 (.d 2 (.p 3 (.d 7 (.p 8 (.p 9 (.n 10 .fin)))))) 7 (.p 8 (.b2 2 (.p 3 (.n 5 (.p 9 (.n 10 .fin)))) 5 (.p 9 (.d 2 (.p 3 (.n 10 .fin))))))))))) ?_
      | refine T.pl 30 [2, 7] (.p 0 (.p 1 (.p 3 (.b2 2 (.d 4 (.p 5 (.p 6 (.n 7 .fin)))) 4 (.p 5 (.n 2 (.p 6 (.n 7 .fin)))))))) ?_
      | refine And.intro (fun hc => ?_) (fun hc => ?_)
      | refine And.intro ?_ ?_
      | intro b
      | refine stp ?_
      | refine TQ.finC ?_
      | refine TQ.finC2 ?_
      | refine TQ.finC3 ?_
      | refine ⟨fun hc => ?_, fun hc => ?_⟩
      | refine Ei.f ?_
      | refine ⟨?_, ?_⟩
      | intro b
      | exact absurd rfl hc
      | exact absurd hc (by decide)
      | omega
      | (dsimp only; omega)
      | (exact absurd hc (by rw [decide_eq_decide.2 hcs.1, bne_self_eq_false]; decide))
      | fail)

end Go.Proofs.Ytcicmlmfnjkekaa


namespace Go.Proofs.Ytcicmlmfnjkekaa
open Go Pw
set_option maxRecDepth 20000
set_option maxHeartbeats 4000000
set_option synthInstance.maxHeartbeats 400000
set_option synthInstance.maxSize 4000
set_option maxHeartbeats 1000000

theorem erase_map3 {α β : Type} {f : α → β} : ∀ (l : List α) (i : Nat), (l.eraseIdx i).map f = (l.map f).eraseIdx i
  | [], _ => rfl
  | _ :: _, 0 => rfl
  | a :: l, i + 1 => by
    rw [List.eraseIdx_cons_succ, List.map_cons, List.map_cons, List.eraseIdx_cons_succ, erase_map3 l i]

def psV (A : Ab) : List Nat := A.row.map fun q => (A.get q).ps
def goodV (p n : Nat) (V : List Nat) : Prop := V.Pairwise (fun a b => b ≤ a) ∧ ∀ i v, V[i]? = some v → v < p ∨ v + i < p + n
theorem goodV_app {p n m : Nat} {V : List Nat} (h : goodV p n V) (hp : 0 < p) : goodV p n (V ++ List.replicate m 0) := by
  constructor
  · rw [List.pairwise_append]
    refine ⟨h.1, List.pairwise_replicate.2 (.inr (Nat.le_refl _)), fun a _ b hb => ?_⟩
    rw [(List.mem_replicate.1 hb).2]; exact Nat.zero_le _
  · intro i v hv
    rcases Nat.lt_or_ge i V.length with hi | hi
    · rw [List.getElem?_append_left hi] at hv; exact h.2 i v hv
    · rw [List.getElem?_append_right hi] at hv
      have := (List.mem_replicate.1 (List.mem_of_getElem? hv)).2
      omega
theorem goodV_pick {p n i : Nat} {V : List Nat} (h : goodV p n V) (hl : V.length ≤ n) (hi : i < V.length) (hlt : (∀ v ∈ V, v < p) ∨ i = 0) : goodV p n ((V.eraseIdx i).map (· + 1)) := by
  constructor
  · rw [List.pairwise_map]
    exact (h.1.sublist (List.eraseIdx_sublist ..)).imp fun h => Nat.succ_le_succ h
  · intro j v hv
    rw [List.getElem?_map] at hv
    obtain ⟨w, hw, rfl⟩ := Option.map_eq_some_iff.1 hv
    have hj := getS_lt hw
    rw [List.length_eraseIdx, if_pos hi] at hj
    rcases hlt with hlt | rfl
    · have := hlt w (List.mem_of_mem_eraseIdx (List.mem_of_getElem? hw))
      omega
    · cases V with
      | nil => exact absurd hi (Nat.not_lt_zero _)
      | cons a V =>
        rw [List.eraseIdx_cons_zero] at hw
        have := h.2 (j + 1) w (by rw [List.getElem?_cons_succ]; exact hw)
        rw [List.length_cons] at hj hl
        omega
theorem late_first {pat m : Nat} {tk : Nat → Tk} {l : List Nat} (h : (l.map fun q => (tk q).ps).Pairwise (fun a b => b ≤ a)) (hne : l ≠ []) : (∀ v ∈ l.map (fun q => (tk q).ps), v < pat) ∨ pickAt pat tk l m = 0 := by
  cases l with
  | nil => exact absurd rfl hne
  | cons a l =>
    by_cases hl : pat ≤ (tk a).ps
    · right
      have e : (a :: l).findIdx (late pat tk) = 0 := by
        rw [List.findIdx_cons, show late pat tk a = true from decide_eq_true hl]; rfl
      unfold pickAt
      rw [e, if_pos (by simp)]
    · left
      rw [List.map_cons, List.pairwise_cons] at h
      intro v hv
      rw [List.map_cons] at hv
      rcases List.mem_cons.1 hv with rfl | hv
      · omega
      · have := h.1 v hv; omega
theorem upd_get {A : Ab} {g : Tk → Tk} {l : List Nat} {n : Nat} {x : Tk} (h : A.t n = some x) : (A.upd g l).get n = if n ∈ l then g x else x := by
  unfold Ab.get
  show ((A.t n).map (fun x => if n ∈ l then g x else x)).getD default = _
  rw [h]; rfl
theorem upd_get_out {A : Ab} {g : Tk → Tk} {l : List Nat} {n : Nat} (h : n ∉ l) : (A.upd g l).get n = A.get n := by
  unfold Ab.get
  show ((A.t n).map (fun x => if n ∈ l then g x else x)).getD default = _
  cases A.t n with
  | none => rfl
  | some x => show (if n ∈ l then g x else x) = x; rw [if_neg h]
theorem upd_get_rdy {A : Ab} {ti : Bool} {l : List Nat} {n : Nat} (h : n ∈ l) : ((A.upd (rdyG ti) l).get n).ps = 0 := by
  unfold Ab.get
  show (((A.t n).map (fun x => if n ∈ l then rdyG ti x else x)).getD default).ps = 0
  cases A.t n with
  | none => rfl
  | some x => show (if n ∈ l then rdyG ti x else x).ps = 0; rw [if_pos h]; rfl
theorem get_of {A : Ab} {n : Nat} {x : Tk} (h : A.t n = some x) : A.get n = x := by unfold Ab.get; rw [h]; rfl
structure fairI (p n c : Nat) (A : Ab) (s : List Nat) : Prop where
  pat : A.pat = p
  few : A.few n
  v : goodV p n (psV A)
  len : s.length = n
  inr : ∀ k < n, k ∈ A.row → gt s k ≤ (A.get k).ps + 1
  out : ∀ k < n, k ∉ A.row → gt s k ≤ c
theorem fairI.mono {p n c c' : Nat} {A : Ab} {s : List Nat} (h : fairI p n c A s) (hc : c ≤ c') : fairI p n c' A s := ⟨h.pat, h.few, h.v, h.len, h.inr, fun k hk hn => Nat.le_trans (h.out k hk hn) hc⟩
theorem fair_ps {p n c : Nat} {A : Ab} {s : List Nat} (h : fairI p n c A s) (hp : 0 < p) {k : Nat} (hk : k ∈ A.row) : (A.get k).ps + 1 ≤ p + n := by
  obtain ⟨i, hi⟩ := List.getElem?_of_mem hk
  have h2 := h.v.2 i (A.get k).ps (by unfold psV; rw [List.getElem?_map, hi]; rfl)
  rcases h2 with h2 | h2
  · omega
  · omega
/-- Some more are ready. -/
theorem fair_add {p n : Nat} {A B : Ab} {s : List Nat} {ti : Bool} {X : List Nat} (h : fairI p n 1 A s) (hp : 0 < p) (hX : ∀ x ∈ X, x ∉ A.row) (hpat : B.pat = A.pat) (hrow : B.row = A.row ++ X) (ht : B.t = (A.upd (rdyG ti) X).t) : fairI p n 1 B s := by
  have hg : ∀ q, B.get q = (A.upd (rdyG ti) X).get q := fun q => by unfold Ab.get; rw [ht]
  have e1 : ∀ q ∈ A.row, B.get q = A.get q := fun q hq => by rw [hg]; exact upd_get_out fun e => hX q e hq
  have ev : psV B = psV A ++ List.replicate X.length 0 := by
    unfold psV
    rw [hrow, List.map_append]
    congr 1
    · exact List.map_congr_left fun q hq => by rw [e1 q hq]
    · refine List.ext_getElem (by simp) fun i h1 h2 => ?_
      rw [List.getElem_map, List.getElem_replicate, hg]
      exact upd_get_rdy (List.getElem_mem _)
  refine ⟨hpat.trans h.pat, few_of_t (upd_few _ _ h.few) ht, by rw [ev]; exact goodV_app h.v hp, h.len, fun k hk hm => ?_, fun k hk hm => ?_⟩
  · rw [hrow] at hm
    rcases List.mem_append.1 hm with hm | hm
    · rw [e1 k hm]; exact h.inr k hk hm
    · rw [hg, upd_get_rdy hm]; exact h.out k hk (hX k hm)
  · rw [hrow, List.mem_append, not_or] at hm
    exact h.out k hk hm.1
theorem fair_yield {p n k t : Nat} {A : Ab} {s : List Nat} (hf : A.fit k) (h : fairI p n 1 A s) (hp : 0 < p) (hr : A.runs = some t) : fairI p n 1 A.yield.1 s ∧ A.yield.1.runs = none ∧ A.yield.2 = 0 := by
  have hX : ∀ x ∈ [t], x ∉ A.row := fun x hx hm => by
    rw [List.mem_singleton.1 hx] at hm
    have h1 := (st_1 hf).2 hm
    have h2 := (st_2 hf).2 hr
    omega
  unfold Ab.yield
  rw [hr]
  exact ⟨fair_add h hp hX rfl rfl rfl, rfl, rfl⟩
theorem fair_wait {p n k t q u : Nat} {A : Ab} {s : List Nat} (hf : A.fit k) (h : fairI p n 1 A s) (hr : A.runs = some t) (hb : ¬ badW A.now u) : fairI p n 1 (A.wait q u).1 s ∧ (A.wait q u).1.runs = none ∧ (A.wait q u).2 = 0 := by
  have hX : t ∉ A.row := fun hm => by
    have h1 := (st_1 hf).2 hm
    have h2 := (st_2 hf).2 hr
    omega
  unfold Ab.wait
  rw [hr]
  dsimp only
  rw [if_neg hb]
  have e1 : ∀ x ∈ A.row, Ab.get { A.upd (wtG q u) [t] with runs := none, waits := A.waits ++ [t] } x = A.get x := fun x hx => by
    show (A.upd (wtG q u) [t]).get x = _
    exact upd_get_out fun e => hX (by rw [← List.mem_singleton.1 e]; exact hx)
  refine ⟨⟨h.pat, few_of_t (upd_few (wtG q u) [t] h.few) rfl, ?_, h.len, fun k hk hm => ?_, h.out⟩, rfl, rfl⟩
  · have : psV { A.upd (wtG q u) [t] with runs := none, waits := A.waits ++ [t] } = psV A := by
      unfold psV
      exact List.map_congr_left fun q hq => by rw [e1 q hq]
    rw [this]; exact h.v
  · rw [e1 k hm]; exact h.inr k hk hm
theorem fair_wake {p n k q : Nat} {m : Int} {A : Ab} {s : List Nat} (hf : A.fit k) (h : fairI p n 1 A s) (hp : 0 < p) : fairI p n 1 (A.wake q m) s := by
  refine fair_add (ti := false) (X := (A.wakeR q m).1) h hp (fun x hx hm => ?_) rfl rfl rfl
  have h1 := (st_1 hf).2 hm
  have h2 := (st_3 hf).2 ((runF_sub _ _ _).1.mem hx)
  omega
theorem fair_tick {p n k t : Nat} {A : Ab} {s : List Nat} (hf : A.fit k) (h : fairI p n 1 A s) (hp : 0 < p) : fairI p n 1 (A.tick t).1 s := by
  unfold Ab.tick
  split
  · exact h
  refine fair_add (ti := true) (X := A.tickL t) h hp (fun x hx hm => ?_) rfl rfl rfl
  have h1 := (st_1 hf).2 hm
  have h2 := (st_3 hf).2 ((runF_sub _ _ _).1.mem ((isort_perm _ _).mem_iff.1 hx))
  omega
theorem gt_map_lt {α β : Type} [Inhabited α] [Inhabited β] {f : α → β} {l : List α} {i : Nat} (h : i < l.length) : gt (l.map f) i = f (gt l i) := by
  have h1 : (l.map f)[i]? = some (gt (l.map f) i) := gt_get (by rw [List.length_map]; exact h)
  rw [List.getElem?_map, gt_get h] at h1
  exact (Option.some.inj h1).symm
theorem gt_set {α : Type} [Inhabited α] {l : List α} {i j : Nat} {x : α} (h : j < l.length) : gt (l.set i x) j = if i = j then x else gt l j := by
  have h1 : (l.set i x)[j]? = some (gt (l.set i x) j) := gt_get (by rw [List.length_set]; exact h)
  rw [List.getElem?_set, gt_get h] at h1
  by_cases e : i = j
  · rw [if_pos e, if_pos (e ▸ h)] at h1
    rw [if_pos e]; exact (Option.some.inj h1).symm
  · rw [if_neg e] at h1
    rw [if_neg e]; exact (Option.some.inj h1).symm
theorem fair_pick {p n k m : Nat} {A : Ab} {s : List Nat} (hf : A.fit k) (h : fairI p n 0 A s) (hp : 0 < p) (hr : A.runs = none) (hne : A.row ≠ []) :
    (A.pick m).2.2 = 0 ∧ (A.pick m).2.1 < n ∧ gt s (A.pick m).2.1 ≤ p + n ∧ (A.pick m).1.runs = some (A.pick m).2.1 ∧ fairI p n 1 (A.pick m).1 ((s.map (· + 1)).set (A.pick m).2.1 0) := by
  have hi := pickAt_lt (pat := A.pat) (tk := A.get) (n := m) hne
  have hlt := late_first (pat := p) (tk := A.get) (m := m) h.v.1 hne
  unfold Ab.pick
  rw [hr]
  dsimp only
  rw [if_neg hne]
  dsimp only
  rw [h.pat] at hi ⊢
  generalize hii : pickAt p A.get A.row m = i at hi hlt
  have hper := gt_perm hi
  have hin : gt A.row i ∈ A.row := gt_mem hi
  obtain ⟨x, hx, _⟩ := in_row hf hin
  have hid : gt A.row i < n := by
    rcases Nat.lt_or_ge (gt A.row i) n with h' | h'
    · exact h'
    · rw [h.few _ h'] at hx; cases hx
  have hnd := nd_row hf
  have hni : gt A.row i ∉ A.row.eraseIdx i := by
    have := hper.nodup_iff.2 hnd
    rw [List.nodup_cons] at this; exact this.1
  have hsub : ∀ q ∈ A.row.eraseIdx i, q ∈ A.row := fun q hq => List.mem_of_mem_eraseIdx hq
  refine ⟨rfl, hid, Nat.le_trans (h.inr _ hid hin) (fair_ps h hp hin), rfl, ?_⟩
  have hg : ∀ q ∈ A.row.eraseIdx i, (Ab.get { (A.upd incG (A.row.eraseIdx i)).upd runG [gt A.row i] with runs := some (gt A.row i), row := A.row.eraseIdx i } q).ps = (A.get q).ps + 1 := fun q hq => by
    show (((A.upd incG (A.row.eraseIdx i)).upd runG [gt A.row i]).get q).ps = _
    rw [upd_get_out (fun e => hni (by rw [← List.mem_singleton.1 e]; exact hq))]
    obtain ⟨y, hy, _⟩ := in_row hf (hsub q hq)
    rw [upd_get hy, if_pos hq, get_of hy]; rfl
  refine ⟨h.pat, few_of_t (upd_few runG _ (upd_few incG _ h.few)) rfl, ?_, ?_, fun k hk hm => ?_, fun k hk hm => ?_⟩
  · have e : psV { (A.upd incG (A.row.eraseIdx i)).upd runG [gt A.row i] with runs := some (gt A.row i), row := A.row.eraseIdx i } = ((psV A).eraseIdx i).map (· + 1) := by
      unfold psV
      rw [← erase_map3, List.map_map]
      exact List.map_congr_left fun q hq => hg q hq
    rw [e]
    have hl : (psV A).length = A.row.length := by unfold psV; exact List.length_map _
    exact goodV_pick h.v (by rw [hl]; exact few_row hf h.few) (by rw [hl]; exact hi) hlt
  · rw [List.length_set, List.length_map]; exact h.len
  · rw [gt_set (by rw [List.length_map, h.len]; exact hk), gt_map_lt (by rw [h.len]; exact hk), hg k hm]
    split
    · exact Nat.zero_le _
    · have := h.inr k hk (hsub k hm); omega
  · rw [gt_set (by rw [List.length_map, h.len]; exact hk), gt_map_lt (by rw [h.len]; exact hk)]
    split
    · exact Nat.zero_le _
    · rename_i hne'
      have : k ∉ A.row := fun e => by
        rcases List.mem_cons.1 (hper.mem_iff.2 e) with e | e
        · exact hne' e.symm
        · exact hm e
      have := h.out k hk this; omega
/-- The end of a round. -/
def endS (A : Ab) (s : List Nat) : Nat → List Nat
  | 0 => s
  | j + 1 => if A.state j = 1 then endS A s j else (endS A s j).set j 0
theorem endS_len {A : Ab} {s : List Nat} : ∀ j, (endS A s j).length = s.length
  | 0 => rfl
  | j + 1 => by
    unfold endS; split
    · exact endS_len j
    · rw [List.length_set]; exact endS_len j
theorem endS_gt {A : Ab} {s : List Nat} {k : Nat} (hk : k < s.length) : ∀ j, gt (endS A s j) k = if k < j ∧ A.state k ≠ 1 then 0 else gt s k
  | 0 => by rw [if_neg (fun h => Nat.not_lt_zero _ h.1)]; rfl
  | j + 1 => by
    have hl : k < (endS A s j).length := by rw [endS_len]; exact hk
    have ih := endS_gt (A := A) hk j
    unfold endS
    by_cases e : j = k
    · subst e
      rw [if_neg (fun h => Nat.lt_irrefl _ h.1)] at ih
      split
      · rename_i h1; rw [ih, if_neg (fun h => h.2 h1)]
      · rename_i h1; rw [gt_set hl, if_pos rfl, if_pos ⟨Nat.lt_succ_self _, h1⟩]
    · have e2 : (k < j + 1 ∧ A.state k ≠ 1) ↔ (k < j ∧ A.state k ≠ 1) := ⟨fun h => ⟨by omega, h.2⟩, fun h => ⟨by omega, h.2⟩⟩
      split
      · rw [ih]; simp only [e2]
      · rw [gt_set hl, if_neg e, ih]; simp only [e2]
theorem endS_t {A : Ab} {s : List Nat} {j : Nat} (h : A.state j = 1) : endS A s (j + 1) = endS A s j := if_pos h
theorem endS_f {A : Ab} {s : List Nat} {j : Nat} (h : ¬ A.state j = 1) : endS A s (j + 1) = (endS A s j).set j 0 := if_neg h
theorem endS_ok {p n k j : Nat} {A : Ab} {s : List Nat} (hf : A.fit k) (h : fairI p n 1 A s) (hp : 0 < p) (hj : j < n) : gt (endS A s (j + 1)) j ≤ p + n := by
  rw [endS_gt (by rw [h.len]; exact hj)]
  split
  · exact Nat.zero_le _
  · rename_i hn
    have hs : A.state j = 1 := by
      by_cases e : A.state j = 1
      · exact e
      · exact absurd ⟨Nat.lt_succ_self _, e⟩ hn
    have hm := (st_1 hf).1 hs
    exact Nat.le_trans (h.inr j hj hm) (fair_ps h hp hm)
theorem fair_end {p n k : Nat} {A : Ab} {s : List Nat} (hf : A.fit k) (h : fairI p n 1 A s) : fairI p n 0 A (endS A s n) := by
  refine ⟨h.pat, h.few, h.v, by rw [endS_len, h.len], fun k hk hm => ?_, fun k hk hm => ?_⟩
  · rw [endS_gt (by rw [h.len]; exact hk), if_neg (fun e => e.2 ((st_1 hf).2 hm))]; exact h.inr k hk hm
  · rw [endS_gt (by rw [h.len]; exact hk), if_pos ⟨hk, fun e => hm ((st_1 hf).1 e)⟩]; exact Nat.le_refl _
/-- All begin. -/
structure begI (p j : Nat) (A : Ab) : Prop where
  pat : A.pat = p
  few : A.few j
  z : ∀ q ∈ A.row, (A.get q).ps = 0
  cnt : A.cnt = j
  runs : A.runs = none
  now : A.now = 0
theorem begI_new (p : Nat) : begI p 0 (newA p) := ⟨rfl, fun _ _ => rfl, fun q hq => (by cases hq), rfl, rfl, rfl⟩
theorem begI_spawn {p j k : Nat} {A : Ab} (hf : A.fit k) (h : begI p j A) (hj : j < 256) : (A.spawn j).2 = 0 ∧ begI p (j + 1) (A.spawn j).1 := by
  have hn := h.few j (Nat.le_refl _)
  unfold Ab.spawn
  rw [hn, if_neg (by simp), if_neg (by rw [h.cnt]; omega)]
  refine ⟨rfl, h.pat, fun m hm => ?_, fun q hq => ?_, by show A.cnt + 1 = _; rw [h.cnt], h.runs, h.now⟩
  · show (if m = j then _ else A.t m) = none
    rw [if_neg (by omega)]; exact h.few m (by omega)
  · show ((if q = j then some _ else A.t q).getD default).ps = 0
    by_cases e : q = j
    · rw [if_pos e]; rfl
    · rw [if_neg e]
      have hq' : q ∈ A.row ++ [j] := hq
      rcases List.mem_append.1 hq' with hq' | hq'
      · exact h.z q hq'
      · exact absurd (List.mem_singleton.1 hq') e
theorem begI_fair {p n : Nat} {A : Ab} (h : begI p n A) (hp : 0 < p) : fairI p n 0 A (List.replicate n 0) := by
  have hg : ∀ k, gt (List.replicate n 0) k = 0 := fun k => by
    unfold gt
    rw [List.getD_eq_getElem?_getD, List.getElem?_replicate]
    split <;> rfl
  refine ⟨h.pat, h.few, ?_, List.length_replicate, fun k _ _ => by rw [hg]; exact Nat.zero_le _, fun k _ _ => by rw [hg]; exact Nat.le_refl _⟩
  have ez : psV A = List.replicate A.row.length 0 := by
    refine List.ext_getElem (by simp [psV]) fun i h1 h2 => ?_
    simp only [psV, List.getElem_map, List.getElem_replicate]
    exact h.z _ (List.getElem_mem _)
  rw [ez]
  have := goodV_app (n := n) (m := A.row.length) (V := []) (p := p) ⟨List.Pairwise.nil, fun i v h => by cases h⟩ hp
  rwa [List.nil_append] at this
theorem pick_none {A : Ab} {m : Nat} (hr : A.runs = none) (hne : A.row = []) : A.pick m = (A, 0, 5) := by
  unfold Ab.pick; rw [hr]; dsimp only; rw [if_pos hne]

end Go.Proofs.Ytcicmlmfnjkekaa

