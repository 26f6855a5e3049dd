/- Lemmas for the proofs of this seat: no statement of the seat is claimed here. -/
import Derived.Test.YtcicmlmfnjkekaaKe
set_option linter.all false

namespace Go.Proofs.Ytcicmlmfnjkekaa
open Go Pw
set_option maxRecDepth 20000
set_option maxHeartbeats 4000000
set_option synthInstance.maxHeartbeats 400000
set_option synthInstance.maxSize 4000
set_option maxHeartbeats 2000000

instance {L R : List Assn} {a : Option Addr} {i k rn : Nat} {x y : Int} {rw_ : List Nat} [hx : Nn x i] [hy : Nn y (i + 1)] [hd : SlAt L (.slice a rn k) 61 1 rn (rw_.map pv) R] : FnR Try.prog 29 [.slice a rn k, .int .i64 x, .int .i64 y] L (fun q => Vc (rn = rw_.length ∧ i < rw_.length ∧ rw_.length < 1099511627776) (q (.slice a (rw_.eraseIdx i).length k) (sl 61 1 (.slice a (rw_.eraseIdx i).length k) (rw_.eraseIdx i).length ((rw_.eraseIdx i).map pv) :: R))) :=
  ⟨fun q h => by
    obtain ⟨⟨rfl, h1, h2⟩, hq⟩ := h
    exact ⟨_, R, _, by rw [hx.h, hy.h]; exact delete_spec a i k rw_ h1 h2, Pick.of1 hd.h, fun v L' hv => by rw [hv.1, hv.2]; exact hq⟩⟩
def incT (tk : Nat → Tk) (q : Nat) : Nat → Tk := upd tk q { tk q with ps := (tk q).ps + 1 }
def incL (tk : Nat → Tk) (l : List Nat) : Nat → Tk := l.foldl incT tk
theorem incL_next {tk : Nat → Tk} {l : List Nat} {j : Nat} (h : j < l.length) : incL tk (l.take (j + 1)) = incT (incL tk (l.take j)) (gt l j) := by
  rw [take_gt h, incL, List.foldl_append]; rfl
theorem incT_ps (tk : Nat → Tk) (q r : Nat) : (incT tk q r).ps ≤ (tk r).ps + 1 := by
  unfold incT upd
  by_cases h : r = q
  · subst h; simp
  · simp [h]
theorem incL_ps (tk : Nat → Tk) (l : List Nat) (r : Nat) : (incL tk l r).ps ≤ (tk r).ps + l.length := by
  induction l generalizing tk with
  | nil => exact Nat.le_refl _
  | cons a l ih =>
    have h1 := ih (incT tk a)
    have h2 := incT_ps tk a r
    show (incL (incT tk a) l r).ps ≤ _
    rw [List.length_cons]; omega
def pickAt (pat : Nat) (tk : Nat → Tk) (row : List Nat) (n : Nat) : Nat := if row.findIdx (late pat tk) < row.length then row.findIdx (late pat tk) else n % row.length
def pickT (tk : Nat → Tk) (row : List Nat) (i : Nat) : Nat → Tk := upd (incL tk (row.eraseIdx i)) (gt row i) { incL tk (row.eraseIdx i) (gt row i) with st := 2 }
def Sc.pick (S : Sc) (n : Nat) : Sc × Nat × Nat := match S.runs with
  | some _ => (S, 0, 3)
  | none => if S.row = [] then (S, 0, 5) else
    ({ S with runs := some (gt S.row (pickAt S.pat S.tk S.row n)), row := S.row.eraseIdx (pickAt S.pat S.tk S.row n), tk := pickT S.tk S.row (pickAt S.pat S.tk S.row n) }, (pickT S.tk S.row (pickAt S.pat S.tk S.row n) (gt S.row (pickAt S.pat S.tk S.row n))).id, 0)
theorem idx_cases (f : Nat → Bool) (l : List Nat) : (idxI f l = -1 ∧ ¬ l.findIdx f < l.length) ∨ (∃ i : Nat, idxI f l = i ∧ i = l.findIdx f ∧ i < l.length) := by
  unfold idxI
  by_cases h : l.findIdx f < l.length
  · exact .inr ⟨_, if_pos h, rfl, h⟩
  · exact .inl ⟨if_neg h, h⟩

theorem incL_nil (tk : Nat → Tk) : incL tk [] = tk := rfl
theorem pick_s {S : Sc} {n t : Nat} (h : S.runs = some t) : S.pick n = (S, 0, 3) := by rw [Sc.pick, h]
theorem pick_e {S : Sc} {n : Nat} (h : S.runs = none) (h2 : S.row = []) : S.pick n = (S, 0, 5) := by rw [Sc.pick, h]; exact if_pos h2
theorem pick_0 {S : Sc} {n : Nat} (h : S.runs = none) (h2 : S.row ≠ []) (at_ : Nat) (e : pickAt S.pat S.tk S.row n = at_) : S.pick n = ({ S with runs := some (gt S.row at_), row := S.row.eraseIdx at_, tk := pickT S.tk S.row at_ }, (pickT S.tk S.row at_ (gt S.row at_)).id, 0) := by rw [Sc.pick, h]; exact (if_neg h2).trans (by rw [e])
attribute [local irreducible] idxI pickAt incL
theorem pick_spec (p n : Nat) (S : Sc) (hS : S.ok) (hn : n < 18446744073709551616) :
    Sat Try.prog 10 [.pointer (some ⟨p, 0, none⟩), .int .u64 (n : Nat)] [scA p S] (fun u L' => u = asResult [.int .u32 ((S.pick n).2.1 : Nat), .int .i64 ((S.pick n).2.2 : Nat)] ∧ L' = [scA p (S.pick n).1]) := by
  obtain ⟨pat, tm, rw_, wt, rn, nw, ps, tk⟩ := S
  have hm := hS.map
  refine Sat.openA1 ?_
  rintro ⟨m, a, k, b, l⟩ -
  have hrl := hS.rl
  have hro := hS.row
  have htv := hS.tv
  have hpa := hS.pat
  have hru := hS.runs
  dsimp only [scL] at *
  rcases rn with _ | t <;> dsimp only [optP] at *
  all_goals have hwr : rw_.length ≠ 0 → IntKind.i64.wrap ((n % rw_.length : Nat) : Int) = ((n % rw_.length : Nat) : Int) := fun h0 => wrap_nat (Nat.lt_trans (Nat.mod_lt _ (by omega)) (by show rw_.length < 9223372036854775808; omega))
  all_goals
    refine Sat.enter Try.func10 rfl Try.ntmps10 rfl (fun c R => ?_)
    try simp only [List.cons_append, List.nil_append]
    repeat' (first
      | (refine T.atR 8 ?_; rcases idx_cases (late pat tk) rw_ with ⟨hi, hi2⟩ | ⟨i, hi, hi2, hi3⟩ <;> simp only [hi] <;> refine Hold.h ?_)
      | (exact Fini.of ⟨by rw [pick_e (S := ⟨pat, tm, rw_, wt, none, nw, ps, tk⟩) rfl (List.length_eq_zero_iff.1 ‹_›)]; rfl, by rw [pick_e (S := ⟨pat, tm, rw_, wt, none, nw, ps, tk⟩) rfl (List.length_eq_zero_iff.1 ‹_›)]⟩ (by exact (Imp.sc ⟨m, _, _, _, _⟩ (by repeat first | exact Imp.refl _ | (apply Imp.pull; focus ((repeat first | exact Del.head _ _ | apply Del.tail); done)) | apply Imp.drop))))
      | (exact Fini.of ⟨by rw [pick_s (S := ⟨pat, tm, rw_, wt, some t, nw, ps, tk⟩) rfl]; rfl, by rw [pick_s (S := ⟨pat, tm, rw_, wt, some t, nw, ps, tk⟩) rfl]⟩ (by exact (Imp.sc ⟨m, _, _, _, _⟩ (by repeat first | exact Imp.refl _ | (apply Imp.pull; focus ((repeat first | exact Del.head _ _ | apply Del.tail); done)) | apply Imp.drop))))
      | (refine Vc.mk ⟨rfl, hro, by omega⟩ ?_)
      | (refine Vc.mk ⟨rfl, by first | omega | exact Nat.mod_lt _ (by omega), by omega⟩ ?_)
      | exact Nat.mod_lt _ (by omega)
      | (exact hro _ (gt_mem (by first | omega | exact Nat.mod_lt _ (by omega))))
      | (exact hro _ (List.mem_of_mem_eraseIdx (gt_mem (by omega))))
      | refine T.pl 10 [10] (.p 5 (.d 0 (.d 1 (.p 2 (.d 3 (.d 4 (.d 6 (.d 7 (.p 8 (.d 9 (.n 10 .fin))))))))))) ?_
      | refine T.pk 11 [8, 11] (.p 5 (.p 6 (.p 7 (.g 0 (.g 1 (.p 2 (.d 3 (.d 4 (.n 8 (.p 9 (.d 10 (.n 11 .fin)))))))))))) ?_
      | refine And.intro (fun hc => ?_) (fun hc => ?_)
      | refine And.intro ?_ ?_
      | intro b
      | refine stk ?_
      | refine stp ?_
      | refine TQ.finC ?_
      | refine TQ.finC2 ?_
      | refine TQ.finC3 ?_
      | refine ⟨fun hc => ?_, fun hc => ?_⟩
      | refine Ei.f ?_
      | refine ⟨?_, ?_⟩
      | intro b
      | omega
      | (dsimp only; omega)
      |  fail)
    all_goals try refine Hold.mk ?_
    repeat' (first
      | (refine T.atR 10 ?_; have h0 : ¬ rw_.length = 0 := ‹_›; have hne : rw_ ≠ [] := fun e => absurd (by rw [e]; rfl) h0; have hpk : pickAt pat tk rw_ n = n % rw_.length := (by unfold pickAt; exact if_neg hi2); have hi3 : n % rw_.length < rw_.length := Nat.mod_lt _ (by omega); simp only [hwr h0]; generalize n % rw_.length = i at hpk hi3 ⊢; refine Hold.h ?_)
      | (refine T.atR 10 ?_; have h0 : ¬ rw_.length = 0 := ‹_›; have hne : rw_ ≠ [] := fun e => absurd (by rw [e]; rfl) h0; have hpk : pickAt pat tk rw_ n = i := (by unfold pickAt; rw [if_pos (by rw [← hi2]; exact hi3), hi2]); refine Hold.h ?_)
      | (refine Vc.mk ⟨rfl, hro, by omega⟩ ?_)
      | (refine Vc.mk ⟨rfl, by first | omega | exact Nat.mod_lt _ (by omega), by omega⟩ ?_)
      | exact Nat.mod_lt _ (by omega)
      | (exact hro _ (gt_mem (by first | omega | exact Nat.mod_lt _ (by omega))))
      | (exact hro _ (List.mem_of_mem_eraseIdx (gt_mem (by omega))))
      | refine T.pl 10 [10] (.p 5 (.d 0 (.d 1 (.p 2 (.d 3 (.d 4 (.d 6 (.d 7 (.p 8 (.d 9 (.n 10 .fin))))))))))) ?_
      | refine T.pk 11 [8, 11] (.p 5 (.p 6 (.p 7 (.g 0 (.g 1 (.p 2 (.d 3 (.d 4 (.n 8 (.p 9 (.d 10 (.n 11 .fin)))))))))))) ?_
      | refine And.intro (fun hc => ?_) (fun hc => ?_)
      | refine And.intro ?_ ?_
      | intro b
      | refine stk ?_
      | refine stp ?_
      | refine TQ.finC ?_
      | refine TQ.finC2 ?_
      | refine TQ.finC3 ?_
      | refine ⟨fun hc => ?_, fun hc => ?_⟩
      | refine Ei.f ?_
      | refine ⟨?_, ?_⟩
      | intro b
      | omega
      | (dsimp only; omega)
      |  fail)
    all_goals try refine Hold.mk ?_
    repeat' (first
      | (refine T.atB 1 ?_; refine T.ent (Ent.imp (show Imp _ (objF tkV 65 ps (incL tk ((rw_.eraseIdx i).take 0)) :: _) from (by rw [List.take_zero, incL_nil]; apply Imp.pull (by first | exact Del.head _ _ | exact Del.tail (Del.head _ _) | exact Del.tail (Del.tail (Del.head _ _)) | exact Del.tail (Del.tail (Del.tail (Del.head _ _))) | exact Del.tail (Del.tail (Del.tail (Del.tail (Del.head _ _)))) | exact Del.tail (Del.tail (Del.tail (Del.tail (Del.tail (Del.head _ _))))) | exact Del.tail (Del.tail (Del.tail (Del.tail (Del.tail (Del.tail (Del.head _ _)))))) | exact Del.tail (Del.tail (Del.tail (Del.tail (Del.tail (Del.tail (Del.tail (Del.head _ _))))))) | exact Del.tail (Del.tail (Del.tail (Del.tail (Del.tail (Del.tail (Del.tail (Del.tail (Del.head _ _))))))))); exact Imp.refl _))) ?_; refine T.lpa 1 [(2, _), (66, _), (67, _)] (0 : Nat) (fun z => [(68, .int .i64 (z : Nat))]) (fun z => [objF tkV 65 ps (incL tk ((rw_.eraseIdx i).take z))]) (fun z => z ≤ (rw_.eraseIdx i).length) (fun z => (rw_.eraseIdx i).length - z) (Nat.zero_le _) ?_; rintro j g hI; (try dsimp only at hI ⊢); have hps := incL_ps tk ((rw_.eraseIdx i).take j); have htl : ((rw_.eraseIdx i).take j).length ≤ (rw_.eraseIdx i).length := (by rw [List.length_take]; omega); have hel : (rw_.eraseIdx i).length ≤ rw_.length := (by rw [List.length_eraseIdx]; split <;> omega); have hpj := hps (gt (rw_.eraseIdx i) j); have htj := htv (gt (rw_.eraseIdx i) j); simp only [List.cons_append, List.nil_append, appR])
      | (refine TQ.atL ?_; have hj : j < (rw_.eraseIdx i).length := (by omega); rw [show ∀ (q : Nat), upd (incL tk ((rw_.eraseIdx i).take j)) q { (incL tk ((rw_.eraseIdx i).take j)) q with ps := ((incL tk ((rw_.eraseIdx i).take j)) q).ps + 1 } = incT (incL tk ((rw_.eraseIdx i).take j)) q from fun _ => rfl, ← incL_next hj]; refine TQ.rd (j + 1) rfl ⟨rfl, rfl, rfl, rfl, trivial⟩ (by omega) (by omega) (Ent.imp (by repeat first | exact Imp.refl _ | (apply Imp.pull; focus ((repeat first | exact Del.head _ _ | apply Del.tail); done)) | apply Imp.drop)))
      | (refine T.atR 17 ?_; have ej : j = (rw_.eraseIdx i).length := (by omega); subst ej; rw [List.take_length])
      | (exact Fini.of ⟨by rw [pick_0 (S := ⟨pat, tm, rw_, wt, none, nw, ps, tk⟩) rfl hne i hpk]; rfl, by rw [pick_0 (S := ⟨pat, tm, rw_, wt, none, nw, ps, tk⟩) rfl hne i hpk]⟩ (by exact (Imp.sc ⟨m, _, _, _, _⟩ (by repeat first | exact Imp.refl _ | (apply Imp.pull; focus ((repeat first | exact Del.head _ _ | apply Del.tail); done)) | apply Imp.drop))))
      | (refine Vc.mk ⟨rfl, hro, by omega⟩ ?_)
      | (refine Vc.mk ⟨rfl, by first | omega | exact Nat.mod_lt _ (by omega), by omega⟩ ?_)
      | exact Nat.mod_lt _ (by omega)
      | (exact hro _ (gt_mem (by first | omega | exact Nat.mod_lt _ (by omega))))
      | (exact hro _ (List.mem_of_mem_eraseIdx (gt_mem (by omega))))
      | refine T.pl 10 [10] (.p 5 (.d 0 (.d 1 (.p 2 (.d 3 (.d 4 (.d 6 (.d 7 (.p 8 (.d 9 (.n 10 .fin))))))))))) ?_
      | refine T.pk 11 [8, 11] (.p 5 (.p 6 (.p 7 (.g 0 (.g 1 (.p 2 (.d 3 (.d 4 (.n 8 (.p 9 (.d 10 (.n 11 .fin)))))))))))) ?_
      | refine And.intro (fun hc => ?_) (fun hc => ?_)
      | refine And.intro ?_ ?_
      | intro b
      | refine stk ?_
      | refine stp ?_
      | refine TQ.finC ?_
      | refine TQ.finC2 ?_
      | refine TQ.finC3 ?_
      | refine ⟨fun hc => ?_, fun hc => ?_⟩
      | refine Ei.f ?_
      | refine ⟨?_, ?_⟩
      | intro b
      | omega
      | (dsimp only; omega)
      | fail)

end Go.Proofs.Ytcicmlmfnjkekaa

