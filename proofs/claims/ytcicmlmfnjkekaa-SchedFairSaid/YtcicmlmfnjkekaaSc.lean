/- Lemmas for the proofs of this seat: no statement of the seat is claimed here. -/
import Derived.Test.YtcicmlmfnjkekaaSb
import Derived.Test.YtcicmlmfnjkekaaKm
set_option linter.all false

namespace Go.Proofs.Ytcicmlmfnjkekaa
open Go Pw
set_option maxRecDepth 20000
set_option maxHeartbeats 4000000
set_option synthInstance.maxHeartbeats 400000
set_option synthInstance.maxSize 4000
set_option maxHeartbeats 40000000

instance {n : Nat} : Inv vI (.int .i64 ((n : Nat) : Int)) n True := ⟨fun _ => rfl⟩
theorem vI_zero : vI 0 = .int .i64 0 := rfl
theorem fit_any {A : Ab} {k k' : Nat} (h : A.fit k) (hk : k ≤ k') : A.fit k' := by
  obtain ⟨S, hS, e⟩ := h
  exact ⟨S, hS.mono hk, e⟩
def incS (s : List Nat) (j : Nat) : List Nat := (s.take j).map (· + 1) ++ s.drop j
theorem incS_0 (s : List Nat) : incS s 0 = s := rfl
theorem incS_len {s : List Nat} {j : Nat} : (incS s j).length = s.length := by
  unfold incS; rw [List.length_append, List.length_map, List.length_take, List.length_drop]; omega
theorem incS_at {s : List Nat} {j : Nat} (h : j < s.length) : gt (incS s j) j = gt s j := by
  have h1 := gt_get (l := incS s j) (i := j) (by rw [incS_len]; exact h)
  unfold incS at h1
  rw [List.getElem?_append_right (by simp; omega), List.getElem?_drop] at h1
  have e : j + (j - (List.map (fun x => x + 1) (List.take j s)).length) = j := by simp; omega
  rw [e, gt_get h] at h1
  unfold incS
  exact (Option.some.inj h1).symm
theorem incS_next {s : List Nat} {j : Nat} (h : j < s.length) : (incS s j).set j (gt s j + 1) = incS s (j + 1) := by
  unfold incS
  have e : (List.map (fun x => x + 1) (List.take j s)).length = j := by simp; omega
  rw [List.set_append_right _ _ (by omega), e, Nat.sub_self]
  have e2 : s.drop j = gt s j :: s.drop (j + 1) := by
    rw [List.drop_eq_getElem_cons h]
    congr 1
    have := gt_get h
    rw [List.getElem?_eq_getElem h] at this
    exact Option.some.inj this
  rw [e2, List.set_cons_zero, take_gt h, List.map_append, List.append_assoc]
  rfl
theorem incS_all {s : List Nat} {n : Nat} (h : s.length = n) : incS s n = s.map (· + 1) := by
  subst h
  unfold incS
  rw [List.take_length, List.drop_length, List.append_nil]
theorem fair_all {p n : Nat} {A : Ab} {s : List Nat} (h : fairI p n 0 A s) (hp : 0 < p) {k : Nat} (hk : k < n) : gt s k ≤ p + n := by
  by_cases hm : k ∈ A.row
  · exact Nat.le_trans (h.inr k hk hm) (fair_ps h hp hm)
  · exact Nat.le_trans (h.out k hk hm) (Nat.zero_le _)
theorem _root_.Pw.T.cutC {P : Program} {r : Rd} {c : Ctx} {L : List Assn} {Q : Exit → Env → Rd → World → Prop} (cd : Operand) {n : Nat} {l0 : List (Nat × Value)} {g0 : Nat → Value} {S : Type} {x1 x2 y : Code} (sl : S → List (Nat × Value)) (H : S → List Assn) (I : S → Prop)
    (h : T P r c L (.cond cd x1 x2) (cutQ r c n sl H I Q) ⟨n, l0, g0⟩) (k : ∀ s g, I s → T P r c (H s) y Q ⟨n, sl s, g⟩) : T P r c L (.cond cd x1 x2) (thenQ P r y Q) ⟨n, l0, g0⟩ := by
  unfold T at *
  intro w hw
  refine wpIn_mono (h w hw) ?_
  rintro e a w' ⟨E', r', rfl, hq⟩
  cases e with
  | normal =>
    obtain ⟨rfl, s, en, hh, hI, hw'⟩ := hq
    refine ⟨_, _, Env.acd_congr (E'.act_has (sl s) hh) _, ?_⟩
    rw [en]
    exact k s _ hI w' hw'
  | _ => exact ⟨E', r', rfl, hq⟩

theorem rep_vI (n : Nat) : (List.replicate n [Value.int .i64 0]).flatten = (List.replicate n 0).map vI := by
  induction n with
  | zero => rfl
  | succ n ih => rw [List.replicate_succ, List.flatten_cons, ih, List.replicate_succ]; rfl
theorem runs_wake {A : Ab} {q : Nat} {m : Int} : (A.wake q m).runs = A.runs := rfl
theorem now_wake {A : Ab} {q : Nat} {m : Int} : (A.wake q m).now = A.now := rfl
theorem runs_tick {A : Ab} {t : Nat} : (A.tick t).1.runs = A.runs := by unfold Ab.tick; split <;> rfl
theorem now_tick_le {A : Ab} {t : Nat} (h : A.now ≤ t) : (A.tick t).1.now ≤ t := by
  unfold Ab.tick; split
  · exact h
  · exact Nat.le_refl _
theorem endS_0 (A : Ab) (s : List Nat) : endS A s 0 = s := rfl
theorem incS_nx {s : List Nat} {j : Nat} (h : j < s.length) : (incS s j).set j (gt (incS s j) j + 1) = incS s (j + 1) := by rw [incS_at h, incS_next h]
theorem pick_none1 {A : Ab} {m : Nat} (hr : A.runs = none) (hne : A.row = []) : A = (A.pick m).1 ∧ (A.pick m).2.2 = 5 := by rw [pick_none hr hne]; exact ⟨rfl, rfl⟩
instance (priority := 100) {P : Program} {k : IntKind} {x y : Int} {t : TypeId} : Pu P (.bin .rem t (.int k x) (.int k y)) (fun q => Vc (y ≠ 0) (q (.int k (x.tmod y)))) :=
  ⟨fun E d op ty pos af g hr q hk => by
    cases hr with | bin e1 e2 => exact ⟨_, DP.remI e1 e2 hk.1, hk.2⟩⟩
class InpP (a : Option Addr) (sz n k : outParam Nat) : Prop where h : 0 < n → ∃ b o, a = some ⟨b, o, none⟩
theorem inp_at {hp : Array Obj} {a : Option Addr} {sz n k : Nat} {xs : List Value} (hI : Inp hp sz n (.slice a n k) xs) (hn : 0 < n) : ∃ b o, a = some ⟨b, o, none⟩ := by
  obtain ⟨_, _, a', cap, hv, h1 | ⟨b, o, ha, _⟩⟩ := hI
  · omega
  · cases hv; exact ⟨b, o, ha⟩
instance (priority := 1200) {P : Program} {x : Int} {t e : TypeId} {a : Option Addr} {n m i sz sz' n' m' : Nat} {k : IntKind} [ht : Und P t (.slice e)] [hz : Sz P e sz] [hI : InpP a sz' n' m'] [h1 : Nn x i] : Pu P (.indexAddr t (.slice a n m) (.int k x)) (fun q => Vc (n = n' ∧ m = m' ∧ sz' = sz + 1 ∧ i < n) (q (.pointer (eA a (i * sz'))))) :=
  ⟨fun E d op ty pos af g hs q hq => by
    cases hs with | indexAddr e1 e2 =>
    rw [h1.h] at e2
    obtain ⟨⟨rfl, rfl, rfl, hi⟩, hq⟩ := hq
    obtain ⟨b, o, rfl⟩ := hI.h (by omega)
    exact ⟨_, DP.ias e1 e2 ht.h hz.h hi, hq⟩⟩
instance (priority := 1200) {P : Program} {t ft : TypeId} {a : Option Addr} {j k fo n m q sz j' : Nat} {fs : List Field} {nm tg pk : String} {em : Bool} {bo : Nat} [ht : Und P t (.struct fs.toArray)] [hf : GL fs k ⟨nm, ft, fo, em, tg, pk, bo⟩] [hz : Sz P ft m] [hI : InpP a sz n q] [hj : FoA j fo j'] : Pu P (.fieldAddr t (.pointer (eA a j)) k) (fun z => Vc (0 < n) (z (.pointer (eA a j')))) :=
  ⟨fun E d op ty pos af g hs z hq => by
    cases hs with | fieldAddr e1 =>
    obtain ⟨b, o, rfl⟩ := hI.h hq.l
    rw [eA_some] at e1
    refine ⟨_, DP.fa fo e1 ht.h (by have := hf.h; simpa using this) rfl hz.h, ?_⟩
    have e : (eA (some ⟨b, o, none⟩) j') = some ⟨b, (o + j) + fo, none⟩ := by rw [eA_some, ← hj.h, Nat.add_assoc]
    rw [← e]; exact hq.r⟩
instance : Inv vI (.int .i64 0) 0 True := ⟨fun _ => rfl⟩
attribute [local irreducible] Ab.state Ab.pick Ab.yield Ab.wait Ab.wake Ab.tick Ab.spawn incS endS Ab.fit
theorem fair_spec (h : Array Obj) (l : List Stp) (a : Option Addr) (k : Nat) [hI : InpD h a 4 l.length k (l.flatMap stpV)] [hIP : InpP a 4 l.length k] (hok : ∀ j, (gt l j).ok) (hl : l.length < 4611686018427387904) (pat tks : Nat) (hpat : pat < 256) (htks : tks < 256) :
    Sat Try.prog 3 [.int .u8 (pat : Nat), .int .u8 (tks : Nat), .slice a l.length k] [old h] (fun u L' => u = .bool true ∧ L' = [old h]) := by
  all_goals
    refine Sat.enter Try.func3 rfl Try.ntmps3 rfl (fun c R => ?_)
    try simp only [List.cons_append, List.nil_append]
    repeat' (first
      | (refine T.atB 0 ?_; obtain ⟨q, hq⟩ : ∃ x, x = b := ⟨_, rfl⟩; subst hq; generalize hN : tks % 20 + 1 = N; generalize hM : pat % 20 + 1 = M; have hN1 : 1 ≤ N := (by omega); have hN2 : N ≤ 20 := (by omega); have hM1 : 1 ≤ M := (by omega); have hM2 : M ≤ 20 := (by omega); clear hN hM; refine T.lpa 0 [(2, _), (7, _), (8, _), (9, _)] ((0, newA M) : Nat × Ab) (fun z => [(11, .int .i64 (z.1 : Nat))]) (fun z => [abA q 0 z.2]) (fun z => z.1 ≤ N ∧ begI M z.1 z.2) (fun z => N - z.1) ⟨Nat.zero_le _, begI_new _⟩ ?_; rintro ⟨j, A0⟩ g ⟨hj, hbeg⟩; dsimp only at hj hbeg ⊢; simp only [List.cons_append, List.nil_append, appR]; refine T.fit (.head _ _) (fun hfit => ?_))
      | (refine T.atB 2 ?_; obtain rfl : N = j := (by omega); obtain ⟨b9, hb9⟩ : ∃ x, x = b := ⟨_, rfl⟩; subst hb9; rw [rep_vI]; refine T.lpa 2 [(2, _), (7, _), (8, _), (9, _), (12, _)] ((0, A0, 0, List.replicate N 0) : Nat × Ab × Nat × List Nat) (fun z => [(13, .int .i64 (z.1 : Nat))]) (fun z => [abA q z.2.2.1 z.2.1, Pw.sl 3 (0 + 1) (.slice (some ⟨b9, 0, none⟩) N N) N (z.2.2.2.map vI)]) (fun z => z.1 ≤ l.length ∧ z.2.2.1 ≤ z.1 ∧ fairI M N 0 z.2.1 z.2.2.2 ∧ z.2.1.runs = none ∧ z.2.1.now ≤ 4 * z.1) (fun z => l.length - z.1) ⟨Nat.zero_le _, Nat.le_refl _, begI_fair hbeg (by omega), hbeg.runs, (by show A0.now ≤ _; rw [hbeg.now]; exact Nat.zero_le _)⟩ ?_; rintro ⟨i, A, kk, s⟩ g ⟨hI1, hk, hfi, hru, hnow⟩; dsimp only at hI1 hk hfi hru hnow ⊢; simp only [List.cons_append, List.nil_append, appR]; refine T.fit (by repeat first | exact Del.head _ _ | apply Del.tail) (fun hfit => ?_); have hoi := hok i; have hon := hoi.n; have hw20 := few_waits hfit hfi.few; have hsl := hfi.len; have hnow1 : (A.pick (gt l i).n).1.now ≤ 4 * i := (by rw [now_pick]; exact hnow); by_cases hrow : A.row = []; rotate_left; obtain ⟨hp0, hp1, hp2, hp3, hp4⟩ := fair_pick (m := (gt l i).n) hfit hfi (by omega) hru hrow; rotate_left; (have hpe := pick_none1 (m := (gt l i).n) hru hrow; have hpc := hpe.2; have hw21 : (A.pick (gt l i).n).1.waits.length ≤ 20 := (by rw [← hpe.1]; omega)))
      | (refine T.atB 4 ?_; rw [← incS_0 s]; refine T.lpa 4 [(2, _), (7, _), (8, _), (9, _), (12, _), (13, _), (14, _)] (0 : Nat) (fun z => [(16, .int .i64 (z : Nat))]) (fun z => [Pw.sl 3 (0 + 1) (.slice (some ⟨b9, 0, none⟩) N N) N ((incS s z).map vI)]) (fun z => z ≤ N) (fun z => N - z) (Nat.zero_le _) ?_; intro c4 g hc4; have hil := incS_len (s := s) (j := c4); have hia := fun h => incS_at (s := s) (j := c4) h; have hib := fun h => fair_all (k := c4) hfi (by omega) h; simp only [List.cons_append, List.nil_append, appR])
      | (refine T.atB 6 ?_; refine T.fit (by repeat first | exact Del.head _ _ | apply Del.tail) (fun hf1 => ?_); refine T.cutt 6 (fun _ : Ab => [(2, .slice a l.length k), (7, .int .i64 (M : Nat)), (8, .int .i64 (N : Nat)), (9, .pointer (some ⟨q, 0, none⟩)), (12, .slice (some ⟨b9, 0, none⟩) N N), (13, .int .i64 (i : Nat))]) (fun A2 => abA q (kk + 1) A2 :: Pw.sl 3 (0 + 1) (.slice (some ⟨b9, 0, none⟩) N N) N (((s.map (· + 1)).set id 0).map vI) :: old h :: R) (fun A2 => fairI M N 1 A2 ((s.map (· + 1)).set id 0) ∧ A2.runs = none ∧ A2.now ≤ 4 * i + 1) ?_ (fun A2 g h2 => ?_))
      | (refine T.atB 7 ?_; refine T.fit (by repeat first | exact Del.head _ _ | apply Del.tail) (fun hf2 => ?_); have hw22 := few_waits hf2 h2.1.few; have hn22 := h2.2.2; refine T.cutt 7 (fun _ : Ab × List Nat => [(2, .slice a l.length k), (7, .int .i64 (M : Nat)), (8, .int .i64 (N : Nat)), (9, .pointer (some ⟨q, 0, none⟩)), (12, .slice (some ⟨b9, 0, none⟩) N N), (13, .int .i64 (i : Nat))]) (fun z => abA q (kk + 1) z.1 :: Pw.sl 3 (0 + 1) (.slice (some ⟨b9, 0, none⟩) N N) N (z.2.map vI) :: old h :: R) (fun z => fairI M N 1 z.1 z.2 ∧ z.1.runs = none ∧ z.1.now ≤ 4 * (i + 1)) ?_ (fun z3 g h3 => ?_); rotate_left; obtain ⟨A3, s3⟩ := z3; dsimp only at h3 ⊢; rotate_left)
      | (refine T.atB 8 ?_; refine T.fit (by repeat first | exact Del.head _ _ | apply Del.tail) (fun hf3 => ?_); have hs3 := h3.1.len; rw [← endS_0 A3 s3]; refine T.lpa 8 [(2, _), (7, _), (8, _), (9, _), (12, _), (13, _)] (0 : Nat) (fun z => [(17, .int .i64 (z : Nat))]) (fun z => [Pw.sl 3 (0 + 1) (.slice (some ⟨b9, 0, none⟩) N N) N ((endS A3 s3 z).map vI)]) (fun z => z ≤ N) (fun z => N - z) (Nat.zero_le _) ?_; intro c8 g hc8; have hel := endS_len (A := A3) (s := s3) c8; have hel2 := endS_len (A := A3) (s := s3) (c8 + 1); simp only [List.cons_append, List.nil_append, appR])
      | (refine TQ.atL ?_; obtain rfl : N = c8 := (by omega); refine TQ.rd ((i + 1, A3, kk + 1, endS A3 s3 N) : Nat × Ab × Nat × List Nat) rfl ⟨rfl, rfl, rfl, rfl, rfl, rfl, trivial⟩ ⟨by dsimp only; omega, by dsimp only; omega, fair_end hf3 h3.1, h3.2.1, h3.2.2⟩ (by dsimp only; omega) (Ent.imp (by repeat first | exact Imp.refl _ | (apply Imp.pull; focus ((repeat first | exact Del.head _ _ | apply Del.tail); done)) | apply Imp.drop)))
      | (refine T.atR 17 ?_; generalize A.pick (gt l i).n = Pk at *; obtain ⟨A1, id, e⟩ := Pk; dsimp only at *; first | (obtain ⟨rfl, rfl⟩ := hpe) | subst hp0)
      | (refine TQ.atL ?_; refine TQ.rd ((j + 1, (A0.spawn j).1) : Nat × Ab) rfl ⟨rfl, rfl, rfl, rfl, rfl, trivial⟩ ⟨by dsimp only; omega, (begI_spawn hfit hbeg (by omega)).2⟩ (by dsimp only; omega) (Ent.imp (by repeat first | exact Imp.refl _ | (apply Imp.pull; focus ((repeat first | exact Del.head _ _ | apply Del.tail); done)) | apply Imp.drop)))
      | (refine TQ.atL ?_; rw [incS_nx (by omega)]; refine TQ.rda (show Nat from c4 + 1) ?_ ?_)
      | (refine T.atR 26 ?_; obtain rfl : N = c4 := (by omega); rw [incS_all hsl])
      | (refine TQ.atC ?_; refine TQ.cn (_ : Ab) rfl ⟨rfl, rfl, rfl, rfl, rfl, rfl, trivial⟩ ?_ (Ent.imp (by repeat first | exact Imp.refl _ | (apply Imp.pull; focus ((repeat first | exact Del.head _ _ | apply Del.tail); done)) | apply Imp.drop)); exact ⟨(by first | exact (fair_yield hf1 hp4 (by omega) hp3).1 | exact (fair_wait hf1 hp4 hp3 (by unfold badW; omega)).1), (by first | exact (fair_yield hf1 hp4 (by omega) hp3).2.1 | exact (fair_wait hf1 hp4 hp3 (by unfold badW; omega)).2.1), (by first | (rw [now_yield]; omega) | (rw [now_wait]; omega))⟩)
      | (refine T.atR 31 ?_; obtain ⟨A2, hA2⟩ : ∃ x, x = (A.tick (A.now + 1)).1 := ⟨_, rfl⟩; rw [← hA2]; have h2 : fairI M N 1 A2 s ∧ A2.runs = none ∧ A2.now ≤ 4 * i + 1 := (by subst hA2; refine ⟨?_, ?_, Nat.le_trans (now_tick_le (Nat.le_succ _)) (by omega)⟩; exact fair_tick hfit (hfi.mono (Nat.zero_le _)) (by omega); (rw [runs_tick]; exact hru)))
      | (refine TQ.atC ?_; refine TQ.cn ((_, _) : Ab × List Nat) rfl ⟨rfl, rfl, rfl, rfl, rfl, rfl, trivial⟩ ?_ (Ent.imp (by repeat first | exact Imp.refl _ | (apply Imp.pull; focus ((repeat first | exact Del.head _ _ | apply Del.tail); done)) | apply Imp.drop)); exact ⟨(by first | exact h2.1 | exact fair_wake hf2 h2.1 (by omega) | exact fair_tick hf2 h2.1 (by omega)), (by first | exact h2.2.1 | ((try dsimp only); rw [runs_wake]; exact h2.2.1) | ((try dsimp only); rw [runs_tick]; exact h2.2.1)), (by first | ((try dsimp only); omega) | ((try dsimp only); rw [now_wake]; omega) | exact Nat.le_trans (now_tick_le (Nat.le_add_right _ _)) (by omega))⟩)
      | (refine TQ.atL ?_; refine TQ.rda (show Nat from c8 + 1) ?_ ?_)
      | (refine T.cutC (.tmp 176) (fun _ : Unit => [(2, .slice a l.length k), (7, .int .i64 (M : Nat)), (8, .int .i64 (N : Nat)), (9, .pointer (some ⟨q, 0, none⟩)), (12, .slice (some ⟨b9, 0, none⟩) N N), (13, .int .i64 (i : Nat)), (17, .int .i64 (c8 : Nat))]) (fun _ => Pw.sl 3 (0 + 1) (.slice (some ⟨b9, 0, none⟩) N N) N ((endS A3 s3 (c8 + 1)).map vI) :: abA q (kk + 1) A3 :: old h :: R) (fun _ => True) ?_ (fun _ g _ => ?_); rotate_left; have heo := endS_ok (j := c8) hf3 h3.1 (by omega) (by omega); rotate_left)
      | (refine TQ.atC ?_; (first | rw [← endS_t (A := A3) (s := s3) (j := c8) (by omega)] | rw [← endS_f (A := A3) (s := s3) (j := c8) (by omega)]); refine TQ.cn (() : Unit) rfl ⟨rfl, rfl, rfl, rfl, rfl, rfl, rfl, trivial⟩ trivial (Ent.imp (by repeat first | exact Imp.refl _ | (apply Imp.pull; focus ((repeat first | exact Del.head _ _ | apply Del.tail); done)) | apply Imp.drop)))
      | (exact Fini.of ⟨rfl, rfl⟩ (by repeat first | exact Imp.refl _ | (apply Imp.pull; focus ((repeat first | exact Del.head _ _ | apply Del.tail); done)) | apply Imp.drop))
      | refine T.pl 30 [8, 17] (.p 0 (.p 1 (.p 2 (.p 3 (.p 7 (.p 9 (.p 10 (.p 11 (.p 4 (.p 12 (.b3 5 (.p 6 (.b2 8 (.d 13 (.p 14 (.p 15 (.p 16 (.n 17 .fin))))) 13 (.p 14 (.n 8 (.p 15 (.p 16 (.n 17 .fin))))))) 8 (.d 5 (.p 6 (.d 13 (.p 14 (.p 15 (.p 16 (.n 17 .fin))))))) 13 (.p 14 (.b2 5 (.p 6 (.n 8 (.p 15 (.p 16 (.n 17 .fin))))) 8 (.p 15 (.p 16 (.d 5 (.p 6 (.n 17 .fin)))))))))))))))))) ?_
      | refine T.pl 33 [13] (.p 0 (.p 1 (.p 2 (.p 3 (.p 7 (.p 8 (.p 9 (.d 4 (.d 5 (.p 6 (.d 10 (.d 11 (.p 12 (.n 13 .fin)))))))))))))) ?_
      | refine T.pl 35 [2, 10] (.p 0 (.p 1 (.p 3 (.p 4 (.p 5 (.p 6 (.b2 2 (.d 7 (.p 8 (.p 9 (.n 10 .fin)))) 7 (.p 8 (.n 2 (.p 9 (.n 10 .fin))))))))))) ?_
      | refine And.intro (fun hc => ?_) (fun hc => ?_)
      | refine And.intro ?_ ?_
      | intro b
      | refine stp ?_
      | refine TQ.finC ?_
      | refine TQ.finC2 ?_
      | refine TQ.finC3 ?_
      | refine ⟨fun hc => ?_, fun hc => ?_⟩
      | refine Ei.f ?_
      | refine ⟨?_, ?_⟩
      | intro b
      | exact absurd rfl hc
      | exact absurd hc (by decide)
      | omega
      | (dsimp only; omega)
      | exact absurd (begI_spawn hfit hbeg (by omega)).1 hc
      | fail)

end Go.Proofs.Ytcicmlmfnjkekaa

