/- Lemmas for the proofs of this seat: no statement of the seat is claimed here. -/
import Derived.Test.YtcicmlmfnjkekaaKg
set_option linter.all false

namespace Go.Proofs.Ytcicmlmfnjkekaa
open Go Pw
set_option maxRecDepth 20000
set_option maxHeartbeats 4000000
set_option synthInstance.maxHeartbeats 400000
set_option synthInstance.maxSize 4000
set_option maxHeartbeats 1000000

theorem addIf_f (l : List Nat) (t : Nat) : addIf false l t = l := rfl
theorem addIf_t (l : List Nat) (t : Nat) : addIf true l t = l ++ [t] := rfl
/-- The row while it is sifted: those kept, then what stood there. -/
def curL (kp s : List Nat) : List Nat := kp ++ s.drop kp.length
theorem cur_len {kp s : List Nat} (h : kp.length ≤ s.length) : (curL kp s).length = s.length := by unfold curL; rw [List.length_append, List.length_drop]; omega
theorem cur_get {kp s : List Nat} {j : Nat} (h : kp.length ≤ j) : gt (curL kp s) j = gt s j := by
  unfold curL gt
  rw [List.getD_eq_getElem?_getD, List.getD_eq_getElem?_getD, List.getElem?_append_right h, List.getElem?_drop, show kp.length + (j - kp.length) = j by omega]
theorem cur_set {kp s : List Nat} {v : Nat} (h : kp.length < s.length) : (curL kp s).set kp.length v = curL (kp ++ [v]) s := by
  unfold curL
  rw [List.set_append_right _ _ (Nat.le_refl _), Nat.sub_self, List.length_append, List.length_singleton, List.append_assoc]
  congr 1
  rw [← List.getElem_cons_drop h]
  rfl
theorem cur_0 {s : List Nat} {i : Nat} (h : i ≤ s.length) : curL (s.take i) s = s := by
  unfold curL
  rw [List.length_take, Nat.min_eq_left h, List.take_append_drop]
theorem clr_cells {kp s : List Nat} {rest : List Value} {z : Value} (h : kp.length ≤ s.length) : setAll ((curL kp s).map pv ++ rest) kp.length (List.replicate (s.length - kp.length) z) = kp.map pv ++ (List.replicate (s.length - kp.length) z ++ rest) := by
  have := setAll_mid (A := kp.map pv) (M := (s.drop kp.length).map pv) (C := rest) (s := List.replicate (s.length - kp.length) z) (by simp)
  rw [List.length_map] at this
  unfold curL
  rw [List.map_append, this, List.append_assoc]
theorem flat_rep (z : Value) : ∀ n, (List.replicate n [z]).flatten = List.replicate n z
  | 0 => rfl
  | n + 1 => by rw [List.replicate_succ, List.flatten_cons, flat_rep z n]; rfl
instance {q : Nat} : Inv pv (.pointer (some ⟨q, 0, none⟩)) q True := ⟨fun _ => rfl⟩
instance (priority := 1400) clrN {P : Program} {c : Ctx} {L : List Assn} {t e et : TypeId} {b o n cap : Nat} {z : Value} {cs : List Value} {mk : List Value → List Assn} [ht : Und P t (.slice e)] [hzr : Zr P e z] [h1 : One z] [hr : RowSp L b et cs mk] : St P c L (.builtin .clear [.slice (some ⟨b, o, none⟩) n cap] [t]) (fun q => Vc (0 < n ∧ o + n ≤ cs.length) (q (.tuple #[]) (mk (setAll cs o (List.replicate n z))))) :=
  ⟨fun r E d op ty pos af g hs q hq => by
    cases hs with | builtin ev =>
    rename_i xs_
    obtain ⟨⟨hn, h2⟩, hq⟩ := hq
    obtain ⟨m, rfl⟩ : ∃ m, n = m + 1 := ⟨n - 1, by omega⟩
    match xs_, ev with
    | [x], ⟨e1, _⟩ =>
      refine (N.clr (n := m) (sz := 0) (zs := [z]) (cs := cs) (et := et) e1 ht.h hzr.h (one_cells h1.h) rfl (fun u hu => by rw [List.mem_singleton.1 hu]; exact h1.h) (by rw [flat_rep]; exact hr.h _) (by omega)).imp2 fun v L' w h5 hw => ?_
      obtain ⟨rfl, rfl⟩ := h5
      exact hq⟩
attribute [local irreducible] stepW stepT runF curL
instance {Rs Ra Rb R0 R1 R2 R3 L : List Assn} {x y : Int} {n : Nat} {k b3 b4 rn : Nat} {a : Option Addr} {bq bn bm qq : Nat} {most : Int} {s ps : List Nat} {tk : Nat → Tk} [hs : SlAt L (.slice a rn k) 61 1 rn (s.map pv) Rs] [hf : RowDel Rs b3 68 [.func (.func 38) #[] #[.pointer (some ⟨bq, 0, none⟩), .pointer (some ⟨bn, 0, none⟩), .pointer (some ⟨bm, 0, none⟩)]] Ra] [hls : LsDel Ra b4 [] Rb] [hx : Nn x qq] [hy : Nn y n] [h0 : RowDel Rb bq 29 [.int .u32 x] R0] [h1 : RowDel R0 bn 3 [.int .i64 y] R1] [h2 : RowDel R1 bm 3 [.int .i64 most] R2] [h4 : ObjAt R2 Tk tkV 65 ps tk R3] : FnR Try.prog 27 [.slice a rn k, .func (.func 49) #[] #[.pointer (some ⟨b3, 0, none⟩), .pointer (some ⟨b4, 0, none⟩)]] L (fun q => Vc (rn = s.length ∧ (∀ q ∈ s, q ∈ ps) ∧ n + s.length < 1000000000 ∧ s.length < 1000000000) (((runF (stepW qq most tk) n s).1 = [] ∧ (runF (stepW qq most tk) n s).2.1 = s → q (.int .i64 (-1)) (sl 61 1 (.slice a s.length k) s.length (s.map pv) :: Pw.row 68 b3 [.func (.func 38) #[] #[.pointer (some ⟨bq, 0, none⟩), .pointer (some ⟨bn, 0, none⟩), .pointer (some ⟨bm, 0, none⟩)]] :: lsA b4 (runF (stepW qq most tk) n s).1 :: Pw.row 29 bq [.int .u32 (qq : Nat)] :: Pw.row 3 bn [.int .i64 ((runF (stepW qq most tk) n s).2.2 : Nat)] :: Pw.row 3 bm [.int .i64 most] :: objF tkV 65 ps tk :: R3)) ∧ (∀ i : Nat, i < s.length ∧ (runF (stepW qq most tk) n (s.take (i + 1))).2.1 = s.take i → q (.int .i64 (i : Nat)) (sl 61 1 (.slice a s.length k) s.length (s.map pv) :: Pw.row 68 b3 [.func (.func 38) #[] #[.pointer (some ⟨bq, 0, none⟩), .pointer (some ⟨bn, 0, none⟩), .pointer (some ⟨bm, 0, none⟩)]] :: lsA b4 (runF (stepW qq most tk) n (s.take (i + 1))).1 :: Pw.row 29 bq [.int .u32 (qq : Nat)] :: Pw.row 3 bn [.int .i64 ((runF (stepW qq most tk) n (s.take (i + 1))).2.2 : Nat)] :: Pw.row 3 bm [.int .i64 most] :: objF tkV 65 ps tk :: R3)))) :=
  ⟨fun q h => by
    obtain ⟨⟨rfl, hp, hn, hl⟩, hq1, hq2⟩ := h
    refine ⟨_, R3, _, idx_w n k b3 b4 a bq bn bm qq most s ps tk hp hn hl, .cons hs.h (.cons hf.h (.cons hls.h (.cons (by have := h0.h; rw [hx.h] at this; exact this) (.cons (by have := h1.h; rw [hy.h] at this; exact this) (.cons h2.h (.cons h4.h (.nil _))))))), fun v L' hv => ?_⟩
    rcases hv with ⟨h5, h6, h7, h8⟩ | ⟨i, h5, h6, h7, h8⟩
    · rw [h5, h8]; exact hq1 ⟨h6, h7⟩
    · rw [h6, h8]; exact hq2 i ⟨h5, h7⟩⟩
theorem del_w (n k b3 b4 : Nat) (a : Option Addr) (bq bn bm qq : Nat) (most : Int) (s ps : List Nat) (tk : Nat → Tk) (hr : ∀ q ∈ s, q ∈ ps) (hn : n + s.length < 1000000000) (hl : s.length < 1000000000) :
    Sat Try.prog 48 [.slice a s.length k, .func (.func 49) #[] #[.pointer (some ⟨b3, 0, none⟩), .pointer (some ⟨b4, 0, none⟩)]] [sl 61 1 (.slice a s.length k) s.length (s.map pv), Pw.row 68 b3 [.func (.func 38) #[] #[.pointer (some ⟨bq, 0, none⟩), .pointer (some ⟨bn, 0, none⟩), .pointer (some ⟨bm, 0, none⟩)]], lsA b4 [], Pw.row 29 bq [.int .u32 (qq : Nat)], Pw.row 3 bn [.int .i64 (n : Nat)], Pw.row 3 bm [.int .i64 most], objF tkV 65 ps tk] (fun u L' => u = .slice a (runF (stepW qq most tk) n s).2.1.length k ∧ L' = [sl 61 1 (.slice a (runF (stepW qq most tk) n s).2.1.length k) (runF (stepW qq most tk) n s).2.1.length ((runF (stepW qq most tk) n s).2.1.map pv), Pw.row 68 b3 [.func (.func 38) #[] #[.pointer (some ⟨bq, 0, none⟩), .pointer (some ⟨bn, 0, none⟩), .pointer (some ⟨bm, 0, none⟩)]], lsA b4 (runF (stepW qq most tk) n s).1, Pw.row 29 bq [.int .u32 (qq : Nat)], Pw.row 3 bn [.int .i64 ((runF (stepW qq most tk) n s).2.2 : Nat)], Pw.row 3 bm [.int .i64 most], objF tkV 65 ps tk]) := by
  all_goals
    refine Sat.enter Try.func48 rfl Try.ntmps48 rfl (fun c R => ?_)
    try simp only [List.cons_append, List.nil_append]
    repeat' (first
      | (refine And.intro (fun hm1 => ?_) (fun i hm2 => ?_))
      | (obtain ⟨_, hm4⟩ := hm1; exact Fini.of ⟨by rw [hm4]; rfl, by rw [hm4]⟩ (by exact (by repeat first | exact Imp.refl _ | (apply Imp.pull; focus ((repeat first | exact Del.head _ _ | apply Del.tail); done)) | apply Imp.drop)))
      | (refine T.atB 0 ?_; obtain ⟨hi, hkp⟩ := hm2; obtain ⟨⟨tk0, kp0, n0⟩, hz0⟩ : ∃ z, z = (runF (stepW qq most tk) n (s.take (i + 1))) := ⟨_, rfl⟩; simp only [← hz0] at hkp ⊢; have hn0 := runW_n qq most tk n s (i + 1) (by omega); rw [← hz0] at hn0; dsimp only at hn0; have hcu : s = curL kp0 s := (by rw [hkp, cur_0 (by omega)]); have hkl : kp0.length = i := (by rw [hkp, List.length_take]; omega); subst hkl; refine T.ent (Ent.imp (show Imp _ (sl 61 1 (.slice a s.length k) s.length ((curL kp0 s).map pv) :: _) from (by rw [← hcu]; apply Imp.pull (by first | exact Del.head _ _ | exact Del.tail (Del.head _ _) | exact Del.tail (Del.tail (Del.head _ _)) | exact Del.tail (Del.tail (Del.tail (Del.head _ _))) | exact Del.tail (Del.tail (Del.tail (Del.tail (Del.head _ _)))) | exact Del.tail (Del.tail (Del.tail (Del.tail (Del.tail (Del.head _ _))))) | exact Del.tail (Del.tail (Del.tail (Del.tail (Del.tail (Del.tail (Del.head _ _)))))) | exact Del.tail (Del.tail (Del.tail (Del.tail (Del.tail (Del.tail (Del.tail (Del.head _ _))))))) | exact Del.tail (Del.tail (Del.tail (Del.tail (Del.tail (Del.tail (Del.tail (Del.tail (Del.head _ _))))))))); exact Imp.refl _))) ?_; refine T.lpa 0 [(0, _), (1, _)] ((kp0.length + 1, (tk0, kp0, n0)) : Nat × (List Nat × List Nat × Nat)) (fun z => [(5, .int .i64 (z.2.2.1.length : Nat)), (6, .int .i64 (z.1 : Nat))]) (fun z => [sl 61 1 (.slice a s.length k) s.length ((curL z.2.2.1 s).map pv), lsA b4 z.2.1, Pw.row 29 bq [.int .u32 (qq : Nat)], Pw.row 3 bn [.int .i64 (z.2.2.2 : Nat)], Pw.row 3 bm [.int .i64 most]]) (fun z => z.1 ≤ s.length ∧ z.2 = (runF (stepW qq most tk) n (s.take z.1)) ∧ z.2.2.1.length + 1 ≤ z.1) (fun z => s.length - z.1) ⟨by dsimp only; omega, hz0, Nat.le_refl _⟩ ?_; rintro ⟨j, tk9, kp9, n9⟩ g ⟨hI, hz, hkj⟩; dsimp only at hI hz hkj ⊢; have hn9 := runW_n qq most tk n s j hI; rw [← hz] at hn9; dsimp only at hn9; have htl := (runF_len (stepW qq most tk) n s j hI).1; rw [← hz] at htl; dsimp only at htl; have hcl := cur_len (kp := kp9) (s := s) (by omega); simp only [List.cons_append, List.nil_append, appR])
      | (refine T.atR 8 ?_; rw [cur_get (kp := kp9) (s := s) (j := j) (by omega)])
      | (refine TQ.atL ?_; have hj : j < s.length := (by omega); have hnx := runF_next (st := stepW qq most tk) (n := n) hj; rw [← hz] at hnx; have hb : (stepW qq most tk n9 (gt s j)).1 = false := (by simpa using hc); rw [cur_set (by omega)]; refine TQ.rd ((j + 1, (addIf (stepW qq most tk n9 (gt s j)).1 tk9 (gt s j), kp9 ++ [gt s j], (stepW qq most tk n9 (gt s j)).2)) : Nat × (List Nat × List Nat × Nat)) rfl ⟨Eq.trans rfl (congrArg (fun x : Nat => Value.int .i64 (x : Int)) (show kp9.length + 1 = (kp9 ++ [gt s j]).length by simp)), rfl, rfl, rfl, trivial⟩ ⟨by dsimp only; omega, by dsimp only; rw [hnx]; show _ = (addIf _ _ _, addIf (!(stepW qq most tk n9 (gt s j)).1) _ _, _); rw [hb]; rfl, by simp; omega⟩ (by dsimp only; omega) (Ent.imp (by repeat first | exact Imp.refl _ | (apply Imp.pull; focus ((repeat first | exact Del.head _ _ | apply Del.tail); done)) | apply Imp.drop)))
      | (refine TQ.atL ?_; have hj : j < s.length := (by omega); have hnx := runF_next (st := stepW qq most tk) (n := n) hj; rw [← hz] at hnx; have hb : (stepW qq most tk n9 (gt s j)).1 = true := (by simpa using hc); refine TQ.rd ((j + 1, (addIf (stepW qq most tk n9 (gt s j)).1 tk9 (gt s j), kp9, (stepW qq most tk n9 (gt s j)).2)) : Nat × (List Nat × List Nat × Nat)) rfl ⟨rfl, rfl, rfl, rfl, trivial⟩ ⟨by dsimp only; omega, by dsimp only; rw [hnx]; show _ = (addIf _ _ _, addIf (!(stepW qq most tk n9 (gt s j)).1) _ _, _); rw [hb]; rfl, by dsimp only; omega⟩ (by dsimp only; omega) (Ent.imp (by repeat first | exact Imp.refl _ | (apply Imp.pull; focus ((repeat first | exact Del.head _ _ | apply Del.tail); done)) | apply Imp.drop)))
      | (refine T.atR 11 ?_; have ej : j = s.length := (by omega); subst ej; rw [List.take_length] at hz; refine T.open_sl (e := 61) (by first | exact Del.head _ _ | exact Del.tail (Del.head _ _) | exact Del.tail (Del.tail (Del.head _ _)) | exact Del.tail (Del.tail (Del.tail (Del.head _ _))) | exact Del.tail (Del.tail (Del.tail (Del.tail (Del.head _ _)))) | exact Del.tail (Del.tail (Del.tail (Del.tail (Del.tail (Del.head _ _))))) | exact Del.tail (Del.tail (Del.tail (Del.tail (Del.tail (Del.tail (Del.head _ _)))))) | exact Del.tail (Del.tail (Del.tail (Del.tail (Del.tail (Del.tail (Del.tail (Del.head _ _))))))) | exact Del.tail (Del.tail (Del.tail (Del.tail (Del.tail (Del.tail (Del.tail (Del.tail (Del.head _ _))))))))) (fun _ h2 _ => by exfalso; omega) (fun bb mm rest e1 e2 e3 => ?_); simp only [Value.slice.injEq] at e1; obtain ⟨rfl, _, rfl⟩ := e1; refine Hold.h ?_)
      | (refine Vc.mk ⟨rfl, hr, hn, hl⟩ ?_)
      | (refine Vc.mk ⟨rfl, hr, hl⟩ ?_)
      | (refine Vc.mk ⟨hr _ (gt_mem (by omega)), by omega, by omega⟩ ?_)
      | (refine Vc.mk ⟨hr _ (gt_mem (by omega)), by omega⟩ ?_)
      | refine And.intro (fun hc => ?_) (fun hc => ?_)
      | refine And.intro ?_ ?_
      | intro b
      | refine stp ?_
      | refine TQ.finC ?_
      | refine TQ.finC2 ?_
      | refine TQ.finC3 ?_
      | refine ⟨fun hc => ?_, fun hc => ?_⟩
      | refine Ei.f ?_
      | refine ⟨?_, ?_⟩
      | intro b
      | omega
      | (dsimp only; omega)
      | (simp only [List.length_append, List.length_drop, List.length_map]; omega)
      |  fail)
    all_goals try refine Hold.mk ?_
    repeat' (first
      | (rw [show kp9.length * (0 + 1) = kp9.length by omega, clr_cells (by omega), ← hz, show s.length + mm = kp9.length + (s.length - kp9.length + mm) by omega]; dsimp only; exact Fini.of ⟨rfl, rfl⟩ (Imp.sl (b := bb) (n := kp9.length) (k := s.length - kp9.length + mm) (xs := kp9.map pv) (sz := 1) (rest := List.replicate (s.length - kp9.length) (.pointer none) ++ rest) (.head _ _) (by simp) (by simp; omega) (by exact (by repeat first | exact Imp.refl _ | (apply Imp.pull; focus ((repeat first | exact Del.head _ _ | apply Del.tail); done)) | apply Imp.drop))))
      | (refine Vc.mk ⟨rfl, hr, hn, hl⟩ ?_)
      | (refine Vc.mk ⟨rfl, hr, hl⟩ ?_)
      | (refine Vc.mk ⟨hr _ (gt_mem (by omega)), by omega, by omega⟩ ?_)
      | (refine Vc.mk ⟨hr _ (gt_mem (by omega)), by omega⟩ ?_)
      | refine And.intro (fun hc => ?_) (fun hc => ?_)
      | refine And.intro ?_ ?_
      | intro b
      | refine stp ?_
      | refine TQ.finC ?_
      | refine TQ.finC2 ?_
      | refine TQ.finC3 ?_
      | refine ⟨fun hc => ?_, fun hc => ?_⟩
      | refine Ei.f ?_
      | refine ⟨?_, ?_⟩
      | intro b
      | omega
      | (dsimp only; omega)
      | (simp only [List.length_append, List.length_drop, List.length_map]; omega)
      | fail)
instance {Rs Ra Rb R2 R3 L : List Assn} {x : Int} {k b3 b4 rn : Nat} {a : Option Addr} {bq qq : Nat} {s ps : List Nat} {tk : Nat → Tk} [hs : SlAt L (.slice a rn k) 61 1 rn (s.map pv) Rs] [hf : RowDel Rs b3 68 [.func (.func 31) #[] #[.pointer (some ⟨bq, 0, none⟩)]] Ra] [hls : LsDel Ra b4 [] Rb] [hx : Nn x qq] [h0 : RowDel Rb bq 33 [.int .u64 x] R2] [h4 : ObjAt R2 Tk tkV 65 ps tk R3] : FnR Try.prog 27 [.slice a rn k, .func (.func 49) #[] #[.pointer (some ⟨b3, 0, none⟩), .pointer (some ⟨b4, 0, none⟩)]] L (fun q => Vc (rn = s.length ∧ (∀ q ∈ s, q ∈ ps) ∧ s.length < 1000000000) (((runF (stepT qq tk) 0 s).1 = [] ∧ (runF (stepT qq tk) 0 s).2.1 = s → q (.int .i64 (-1)) (sl 61 1 (.slice a s.length k) s.length (s.map pv) :: Pw.row 68 b3 [.func (.func 31) #[] #[.pointer (some ⟨bq, 0, none⟩)]] :: lsA b4 (runF (stepT qq tk) 0 s).1 :: Pw.row 33 bq [.int .u64 (qq : Nat)] :: objF tkV 65 ps tk :: R3)) ∧ (∀ i : Nat, i < s.length ∧ (runF (stepT qq tk) 0 (s.take (i + 1))).2.1 = s.take i → q (.int .i64 (i : Nat)) (sl 61 1 (.slice a s.length k) s.length (s.map pv) :: Pw.row 68 b3 [.func (.func 31) #[] #[.pointer (some ⟨bq, 0, none⟩)]] :: lsA b4 (runF (stepT qq tk) 0 (s.take (i + 1))).1 :: Pw.row 33 bq [.int .u64 (qq : Nat)] :: objF tkV 65 ps tk :: R3)))) :=
  ⟨fun q h => by
    obtain ⟨⟨rfl, hp, hl⟩, hq1, hq2⟩ := h
    refine ⟨_, R3, _, idx_t 0 k b3 b4 a bq qq s ps tk hp hl, .cons hs.h (.cons hf.h (.cons hls.h (.cons (by have := h0.h; rw [hx.h] at this; exact this) (.cons h4.h (.nil _))))), fun v L' hv => ?_⟩
    rcases hv with ⟨h5, h6, h7, h8⟩ | ⟨i, h5, h6, h7, h8⟩
    · rw [h5, h8]; exact hq1 ⟨h6, h7⟩
    · rw [h6, h8]; exact hq2 i ⟨h5, h7⟩⟩
theorem del_t (n k b3 b4 : Nat) (a : Option Addr) (bq qq : Nat) (s ps : List Nat) (tk : Nat → Tk) (hr : ∀ q ∈ s, q ∈ ps) (hl : s.length < 1000000000) :
    Sat Try.prog 48 [.slice a s.length k, .func (.func 49) #[] #[.pointer (some ⟨b3, 0, none⟩), .pointer (some ⟨b4, 0, none⟩)]] [sl 61 1 (.slice a s.length k) s.length (s.map pv), Pw.row 68 b3 [.func (.func 31) #[] #[.pointer (some ⟨bq, 0, none⟩)]], lsA b4 [], Pw.row 33 bq [.int .u64 (qq : Nat)], objF tkV 65 ps tk] (fun u L' => u = .slice a (runF (stepT qq tk) 0 s).2.1.length k ∧ L' = [sl 61 1 (.slice a (runF (stepT qq tk) 0 s).2.1.length k) (runF (stepT qq tk) 0 s).2.1.length ((runF (stepT qq tk) 0 s).2.1.map pv), Pw.row 68 b3 [.func (.func 31) #[] #[.pointer (some ⟨bq, 0, none⟩)]], lsA b4 (runF (stepT qq tk) 0 s).1, Pw.row 33 bq [.int .u64 (qq : Nat)], objF tkV 65 ps tk]) := by
  all_goals
    refine Sat.enter Try.func48 rfl Try.ntmps48 rfl (fun c R => ?_)
    try simp only [List.cons_append, List.nil_append]
    repeat' (first
      | (refine And.intro (fun hm1 => ?_) (fun i hm2 => ?_))
      | (obtain ⟨_, hm4⟩ := hm1; exact Fini.of ⟨by rw [hm4]; rfl, by rw [hm4]⟩ (by exact (by repeat first | exact Imp.refl _ | (apply Imp.pull; focus ((repeat first | exact Del.head _ _ | apply Del.tail); done)) | apply Imp.drop)))
      | (refine T.atB 0 ?_; obtain ⟨hi, hkp⟩ := hm2; obtain ⟨⟨tk0, kp0, n0⟩, hz0⟩ : ∃ z, z = (runF (stepT qq tk) 0 (s.take (i + 1))) := ⟨_, rfl⟩; simp only [← hz0] at hkp ⊢; have hn0 := runT_n qq tk 0 s (i + 1) (by omega); rw [← hz0] at hn0; dsimp only at hn0; subst hn0; have hcu : s = curL kp0 s := (by rw [hkp, cur_0 (by omega)]); have hkl : kp0.length = i := (by rw [hkp, List.length_take]; omega); subst hkl; refine T.ent (Ent.imp (show Imp _ (sl 61 1 (.slice a s.length k) s.length ((curL kp0 s).map pv) :: _) from (by rw [← hcu]; apply Imp.pull (by first | exact Del.head _ _ | exact Del.tail (Del.head _ _) | exact Del.tail (Del.tail (Del.head _ _)) | exact Del.tail (Del.tail (Del.tail (Del.head _ _))) | exact Del.tail (Del.tail (Del.tail (Del.tail (Del.head _ _)))) | exact Del.tail (Del.tail (Del.tail (Del.tail (Del.tail (Del.head _ _))))) | exact Del.tail (Del.tail (Del.tail (Del.tail (Del.tail (Del.tail (Del.head _ _)))))) | exact Del.tail (Del.tail (Del.tail (Del.tail (Del.tail (Del.tail (Del.tail (Del.head _ _))))))) | exact Del.tail (Del.tail (Del.tail (Del.tail (Del.tail (Del.tail (Del.tail (Del.tail (Del.head _ _))))))))); exact Imp.refl _))) ?_; refine T.lpa 0 [(0, _), (1, _)] ((kp0.length + 1, (tk0, kp0, 0)) : Nat × (List Nat × List Nat × Nat)) (fun z => [(5, .int .i64 (z.2.2.1.length : Nat)), (6, .int .i64 (z.1 : Nat))]) (fun z => [sl 61 1 (.slice a s.length k) s.length ((curL z.2.2.1 s).map pv), lsA b4 z.2.1, Pw.row 33 bq [.int .u64 (qq : Nat)]]) (fun z => z.1 ≤ s.length ∧ z.2 = (runF (stepT qq tk) 0 (s.take z.1)) ∧ z.2.2.1.length + 1 ≤ z.1) (fun z => s.length - z.1) ⟨by dsimp only; omega, hz0, Nat.le_refl _⟩ ?_; rintro ⟨j, tk9, kp9, n9⟩ g ⟨hI, hz, hkj⟩; dsimp only at hI hz hkj ⊢; have hn9 := runT_n qq tk 0 s j hI; rw [← hz] at hn9; dsimp only at hn9; subst hn9; have htl := (runF_len (stepT qq tk) 0 s j hI).1; rw [← hz] at htl; dsimp only at htl; have hcl := cur_len (kp := kp9) (s := s) (by omega); simp only [List.cons_append, List.nil_append, appR])
      | (refine T.atR 8 ?_; rw [cur_get (kp := kp9) (s := s) (j := j) (by omega)])
      | (refine TQ.atL ?_; have hj : j < s.length := (by omega); have hnx := runF_next (st := stepT qq tk) (n := 0) hj; rw [← hz] at hnx; have hb : (stepT qq tk 0 (gt s j)).1 = false := (by simpa using hc); rw [cur_set (by omega)]; refine TQ.rd ((j + 1, (addIf (stepT qq tk 0 (gt s j)).1 tk9 (gt s j), kp9 ++ [gt s j], (stepT qq tk 0 (gt s j)).2)) : Nat × (List Nat × List Nat × Nat)) rfl ⟨Eq.trans rfl (congrArg (fun x : Nat => Value.int .i64 (x : Int)) (show kp9.length + 1 = (kp9 ++ [gt s j]).length by simp)), rfl, rfl, rfl, trivial⟩ ⟨by dsimp only; omega, by dsimp only; rw [hnx]; show _ = (addIf _ _ _, addIf (!(stepT qq tk 0 (gt s j)).1) _ _, _); rw [hb]; rfl, by simp; omega⟩ (by dsimp only; omega) (Ent.imp (by repeat first | exact Imp.refl _ | (apply Imp.pull; focus ((repeat first | exact Del.head _ _ | apply Del.tail); done)) | apply Imp.drop)))
      | (refine TQ.atL ?_; have hj : j < s.length := (by omega); have hnx := runF_next (st := stepT qq tk) (n := 0) hj; rw [← hz] at hnx; have hb : (stepT qq tk 0 (gt s j)).1 = true := (by simpa using hc); refine TQ.rd ((j + 1, (addIf (stepT qq tk 0 (gt s j)).1 tk9 (gt s j), kp9, (stepT qq tk 0 (gt s j)).2)) : Nat × (List Nat × List Nat × Nat)) rfl ⟨rfl, rfl, rfl, rfl, trivial⟩ ⟨by dsimp only; omega, by dsimp only; rw [hnx]; show _ = (addIf _ _ _, addIf (!(stepT qq tk 0 (gt s j)).1) _ _, _); rw [hb]; rfl, by dsimp only; omega⟩ (by dsimp only; omega) (Ent.imp (by repeat first | exact Imp.refl _ | (apply Imp.pull; focus ((repeat first | exact Del.head _ _ | apply Del.tail); done)) | apply Imp.drop)))
      | (refine T.atR 11 ?_; have ej : j = s.length := (by omega); subst ej; rw [List.take_length] at hz; refine T.open_sl (e := 61) (by first | exact Del.head _ _ | exact Del.tail (Del.head _ _) | exact Del.tail (Del.tail (Del.head _ _)) | exact Del.tail (Del.tail (Del.tail (Del.head _ _))) | exact Del.tail (Del.tail (Del.tail (Del.tail (Del.head _ _)))) | exact Del.tail (Del.tail (Del.tail (Del.tail (Del.tail (Del.head _ _))))) | exact Del.tail (Del.tail (Del.tail (Del.tail (Del.tail (Del.tail (Del.head _ _)))))) | exact Del.tail (Del.tail (Del.tail (Del.tail (Del.tail (Del.tail (Del.tail (Del.head _ _))))))) | exact Del.tail (Del.tail (Del.tail (Del.tail (Del.tail (Del.tail (Del.tail (Del.tail (Del.head _ _))))))))) (fun _ h2 _ => by exfalso; omega) (fun bb mm rest e1 e2 e3 => ?_); simp only [Value.slice.injEq] at e1; obtain ⟨rfl, _, rfl⟩ := e1; refine Hold.h ?_)
      | (refine Vc.mk ⟨rfl, hr, hn, hl⟩ ?_)
      | (refine Vc.mk ⟨rfl, hr, hl⟩ ?_)
      | (refine Vc.mk ⟨hr _ (gt_mem (by omega)), by omega, by omega⟩ ?_)
      | (refine Vc.mk ⟨hr _ (gt_mem (by omega)), by omega⟩ ?_)
      | refine And.intro (fun hc => ?_) (fun hc => ?_)
      | refine And.intro ?_ ?_
      | intro b
      | refine stp ?_
      | refine TQ.finC ?_
      | refine TQ.finC2 ?_
      | refine TQ.finC3 ?_
      | refine ⟨fun hc => ?_, fun hc => ?_⟩
      | refine Ei.f ?_
      | refine ⟨?_, ?_⟩
      | intro b
      | omega
      | (dsimp only; omega)
      | (simp only [List.length_append, List.length_drop, List.length_map]; omega)
      |  fail)
    all_goals try refine Hold.mk ?_
    repeat' (first
      | (rw [show kp9.length * (0 + 1) = kp9.length by omega, clr_cells (by omega), ← hz, show s.length + mm = kp9.length + (s.length - kp9.length + mm) by omega]; dsimp only; exact Fini.of ⟨rfl, rfl⟩ (Imp.sl (b := bb) (n := kp9.length) (k := s.length - kp9.length + mm) (xs := kp9.map pv) (sz := 1) (rest := List.replicate (s.length - kp9.length) (.pointer none) ++ rest) (.head _ _) (by simp) (by simp; omega) (by exact (by repeat first | exact Imp.refl _ | (apply Imp.pull; focus ((repeat first | exact Del.head _ _ | apply Del.tail); done)) | apply Imp.drop))))
      | (refine Vc.mk ⟨rfl, hr, hn, hl⟩ ?_)
      | (refine Vc.mk ⟨rfl, hr, hl⟩ ?_)
      | (refine Vc.mk ⟨hr _ (gt_mem (by omega)), by omega, by omega⟩ ?_)
      | (refine Vc.mk ⟨hr _ (gt_mem (by omega)), by omega⟩ ?_)
      | refine And.intro (fun hc => ?_) (fun hc => ?_)
      | refine And.intro ?_ ?_
      | intro b
      | refine stp ?_
      | refine TQ.finC ?_
      | refine TQ.finC2 ?_
      | refine TQ.finC3 ?_
      | refine ⟨fun hc => ?_, fun hc => ?_⟩
      | refine Ei.f ?_
      | refine ⟨?_, ?_⟩
      | intro b
      | omega
      | (dsimp only; omega)
      | (simp only [List.length_append, List.length_drop, List.length_map]; omega)
      | fail)

end Go.Proofs.Ytcicmlmfnjkekaa


namespace Go.Proofs.Ytcicmlmfnjkekaa
open Go Pw
set_option maxRecDepth 20000
set_option maxHeartbeats 4000000
set_option synthInstance.maxHeartbeats 400000
set_option synthInstance.maxSize 4000
set_option maxHeartbeats 1000000

theorem TQ.finCp {P : Program} {c : Ctx} {L : List Assn} {E : Env} {fn : Func} {R : List Assn} {B : Value → List Assn → Prop} {t b : Nat} {ty e : TypeId} {u : Value} {us : List Value} [hp : Pl P ty] [hrow : RowAt L b e (u :: us)]
    (h : Fini c L R B (asResult [u])) (hr : fn.results = #[.cell t ty] := by rfl) (ht : E.get t = .pointer (some ⟨b, 0, none⟩) := by rfl) : TQ R0 c L (retQ P fn c R B) .ret E := by
  unfold Fini at h
  obtain ⟨L', h3, h4⟩ := h
  exact TQ.ret (vs := [u]) hr ⟨RV.at ht hp.h hrow.h rfl, rfl⟩ h3 h4
attribute [local irreducible] stepW stepT runF curL
instance {Rs Ra Rb R0 R1 R2 R3 L : List Assn} {x y : Int} {n : Nat} {k b3 b4 rn : Nat} {a : Option Addr} {bq bn bm qq : Nat} {most : Int} {s ps : List Nat} {tk : Nat → Tk} [hs : SlAt L (.slice a rn k) 61 1 rn (s.map pv) Rs] [hf : RowDel Rs b3 68 [.func (.func 38) #[] #[.pointer (some ⟨bq, 0, none⟩), .pointer (some ⟨bn, 0, none⟩), .pointer (some ⟨bm, 0, none⟩)]] Ra] [hls : LsDel Ra b4 [] Rb] [hx : Nn x qq] [hy : Nn y n] [h0 : RowDel Rb bq 29 [.int .u32 x] R0] [h1 : RowDel R0 bn 3 [.int .i64 y] R1] [h2 : RowDel R1 bm 3 [.int .i64 most] R2] [h4 : ObjAt R2 Tk tkV 65 ps tk R3] : FnR Try.prog 48 [.slice a rn k, .func (.func 49) #[] #[.pointer (some ⟨b3, 0, none⟩), .pointer (some ⟨b4, 0, none⟩)]] L (fun q => Vc (rn = s.length ∧ (∀ q ∈ s, q ∈ ps) ∧ n + s.length < 1000000000 ∧ s.length < 1000000000) (q (.slice a (runF (stepW qq most tk) n s).2.1.length k) (sl 61 1 (.slice a (runF (stepW qq most tk) n s).2.1.length k) (runF (stepW qq most tk) n s).2.1.length ((runF (stepW qq most tk) n s).2.1.map pv) :: Pw.row 68 b3 [.func (.func 38) #[] #[.pointer (some ⟨bq, 0, none⟩), .pointer (some ⟨bn, 0, none⟩), .pointer (some ⟨bm, 0, none⟩)]] :: lsA b4 (runF (stepW qq most tk) n s).1 :: Pw.row 29 bq [.int .u32 (qq : Nat)] :: Pw.row 3 bn [.int .i64 ((runF (stepW qq most tk) n s).2.2 : Nat)] :: Pw.row 3 bm [.int .i64 most] :: objF tkV 65 ps tk :: R3))) :=
  ⟨fun q h => by
    obtain ⟨⟨rfl, hp, hn, hl⟩, hq1⟩ := h
    refine ⟨_, R3, _, del_w n k b3 b4 a bq bn bm qq most s ps tk hp hn hl, .cons hs.h (.cons hf.h (.cons hls.h (.cons (by have := h0.h; rw [hx.h] at this; exact this) (.cons (by have := h1.h; rw [hy.h] at this; exact this) (.cons h2.h (.cons h4.h (.nil _))))))), fun v L' hv => ?_⟩
    rw [hv.1, hv.2]; exact hq1⟩
theorem wakes_w (n k p : Nat) (a : Option Addr) (v0 v1 v2 v4 v5 : Value) (bq bn bm qq : Nat) (most : Int) (s ps : List Nat) (tk : Nat → Tk) (hr : ∀ q ∈ s, q ∈ ps) (hn : n + s.length < 1000000000) (hl : s.length < 1000000000) :
    Sat Try.prog 30 [.pointer (some ⟨p, 0, none⟩), .func (.func 38) #[] #[.pointer (some ⟨bq, 0, none⟩), .pointer (some ⟨bn, 0, none⟩), .pointer (some ⟨bm, 0, none⟩)]] [Pw.row 63 p [v0, v1, v2, .slice a s.length k, v4, v5], sl 61 1 (.slice a s.length k) s.length (s.map pv), Pw.row 29 bq [.int .u32 (qq : Nat)], Pw.row 3 bn [.int .i64 (n : Nat)], Pw.row 3 bm [.int .i64 most], objF tkV 65 ps tk] (fun u L' => ∃ a2 k2, u = asResult [.slice a2 (runF (stepW qq most tk) n s).1.length k2] ∧ L' = [Pw.row 63 p [v0, v1, v2, .slice a (runF (stepW qq most tk) n s).2.1.length k, v4, v5], sl 61 1 (.slice a (runF (stepW qq most tk) n s).2.1.length k) (runF (stepW qq most tk) n s).2.1.length ((runF (stepW qq most tk) n s).2.1.map pv), sl 61 1 (.slice a2 (runF (stepW qq most tk) n s).1.length k2) (runF (stepW qq most tk) n s).1.length ((runF (stepW qq most tk) n s).1.map pv), Pw.row 29 bq [.int .u32 (qq : Nat)], Pw.row 3 bn [.int .i64 ((runF (stepW qq most tk) n s).2.2 : Nat)], Pw.row 3 bm [.int .i64 most], objF tkV 65 ps tk]) := by
  all_goals
    refine Sat.enter Try.func30 rfl Try.ntmps30 rfl (fun c R => ?_)
    try simp only [List.cons_append, List.nil_append]
    repeat' (first
      | (refine T.atR 1 ?_; obtain ⟨b4, hb4⟩ : ∃ x, x = b := ⟨_, rfl⟩; subst hb4; refine T.ent (Ent.imp (show Imp _ (lsA b4 [] :: _) from (show Imp _ (exA _ _ :: _) from Imp.shutA (p := fun _ => True) ((none, 0) : Option Addr × Nat) trivial (by refine Imp.pull (by first | exact Del.head _ _ | exact Del.tail (Del.head _ _) | exact Del.tail (Del.tail (Del.head _ _)) | exact Del.tail (Del.tail (Del.tail (Del.head _ _))) | exact Del.tail (Del.tail (Del.tail (Del.tail (Del.head _ _)))) | exact Del.tail (Del.tail (Del.tail (Del.tail (Del.tail (Del.head _ _))))) | exact Del.tail (Del.tail (Del.tail (Del.tail (Del.tail (Del.tail (Del.head _ _)))))) | exact Del.tail (Del.tail (Del.tail (Del.tail (Del.tail (Del.tail (Del.tail (Del.head _ _))))))) | exact Del.tail (Del.tail (Del.tail (Del.tail (Del.tail (Del.tail (Del.tail (Del.tail (Del.head _ _))))))))) (Imp.slN (Imp.refl _)))))) ?_)
      | (refine T.atR 2 ?_; refine T.openA (p := fun _ => True) (by first | exact Del.head _ _ | exact Del.tail (Del.head _ _) | exact Del.tail (Del.tail (Del.head _ _)) | exact Del.tail (Del.tail (Del.tail (Del.head _ _))) | exact Del.tail (Del.tail (Del.tail (Del.tail (Del.head _ _)))) | exact Del.tail (Del.tail (Del.tail (Del.tail (Del.tail (Del.head _ _))))) | exact Del.tail (Del.tail (Del.tail (Del.tail (Del.tail (Del.tail (Del.head _ _)))))) | exact Del.tail (Del.tail (Del.tail (Del.tail (Del.tail (Del.tail (Del.tail (Del.head _ _))))))) | exact Del.tail (Del.tail (Del.tail (Del.tail (Del.tail (Del.tail (Del.tail (Del.tail (Del.head _ _))))))))) ?_; rintro ⟨a2, k2⟩ -; dsimp only; simp only [List.cons_append, List.nil_append, appR])
      | (exact Fini.of ⟨_, _, rfl, rfl⟩ (by repeat first | exact Imp.refl _ | (apply Imp.pull; focus ((repeat first | exact Del.head _ _ | apply Del.tail); done)) | apply Imp.drop))
      | (refine Vc.mk ⟨rfl, hr, hn, hl⟩ ?_)
      | (refine Vc.mk ⟨rfl, hr, hl⟩ ?_)
      | exact List.length_map _
      | exact (rfl : (61 : Nat) = 61)
      | exact trivial
      | (rw [List.length_map, Nat.mul_one])
      | refine And.intro (fun hc => ?_) (fun hc => ?_)
      | refine And.intro ?_ ?_
      | intro b
      | refine stp ?_
      | refine TQ.finCp ?_
      | refine TQ.finC2 ?_
      | refine TQ.finC3 ?_
      | refine ⟨fun hc => ?_, fun hc => ?_⟩
      | refine Ei.f ?_
      | refine ⟨?_, ?_⟩
      | intro b
      | omega
      | (dsimp only; omega)
      | fail)
instance {Rs Ra Rb R2 R3 L : List Assn} {x : Int} {k b3 b4 rn : Nat} {a : Option Addr} {bq qq : Nat} {s ps : List Nat} {tk : Nat → Tk} [hs : SlAt L (.slice a rn k) 61 1 rn (s.map pv) Rs] [hf : RowDel Rs b3 68 [.func (.func 31) #[] #[.pointer (some ⟨bq, 0, none⟩)]] Ra] [hls : LsDel Ra b4 [] Rb] [hx : Nn x qq] [h0 : RowDel Rb bq 33 [.int .u64 x] R2] [h4 : ObjAt R2 Tk tkV 65 ps tk R3] : FnR Try.prog 48 [.slice a rn k, .func (.func 49) #[] #[.pointer (some ⟨b3, 0, none⟩), .pointer (some ⟨b4, 0, none⟩)]] L (fun q => Vc (rn = s.length ∧ (∀ q ∈ s, q ∈ ps) ∧ s.length < 1000000000) (q (.slice a (runF (stepT qq tk) 0 s).2.1.length k) (sl 61 1 (.slice a (runF (stepT qq tk) 0 s).2.1.length k) (runF (stepT qq tk) 0 s).2.1.length ((runF (stepT qq tk) 0 s).2.1.map pv) :: Pw.row 68 b3 [.func (.func 31) #[] #[.pointer (some ⟨bq, 0, none⟩)]] :: lsA b4 (runF (stepT qq tk) 0 s).1 :: Pw.row 33 bq [.int .u64 (qq : Nat)] :: objF tkV 65 ps tk :: R3))) :=
  ⟨fun q h => by
    obtain ⟨⟨rfl, hp, hl⟩, hq1⟩ := h
    refine ⟨_, R3, _, del_t 0 k b3 b4 a bq qq s ps tk hp hl, .cons hs.h (.cons hf.h (.cons hls.h (.cons (by have := h0.h; rw [hx.h] at this; exact this) (.cons h4.h (.nil _))))), fun v L' hv => ?_⟩
    rw [hv.1, hv.2]; exact hq1⟩
theorem wakes_t (n k p : Nat) (a : Option Addr) (v0 v1 v2 v4 v5 : Value) (bq qq : Nat) (s ps : List Nat) (tk : Nat → Tk) (hr : ∀ q ∈ s, q ∈ ps) (hl : s.length < 1000000000) :
    Sat Try.prog 30 [.pointer (some ⟨p, 0, none⟩), .func (.func 31) #[] #[.pointer (some ⟨bq, 0, none⟩)]] [Pw.row 63 p [v0, v1, v2, .slice a s.length k, v4, v5], sl 61 1 (.slice a s.length k) s.length (s.map pv), Pw.row 33 bq [.int .u64 (qq : Nat)], objF tkV 65 ps tk] (fun u L' => ∃ a2 k2, u = asResult [.slice a2 (runF (stepT qq tk) 0 s).1.length k2] ∧ L' = [Pw.row 63 p [v0, v1, v2, .slice a (runF (stepT qq tk) 0 s).2.1.length k, v4, v5], sl 61 1 (.slice a (runF (stepT qq tk) 0 s).2.1.length k) (runF (stepT qq tk) 0 s).2.1.length ((runF (stepT qq tk) 0 s).2.1.map pv), sl 61 1 (.slice a2 (runF (stepT qq tk) 0 s).1.length k2) (runF (stepT qq tk) 0 s).1.length ((runF (stepT qq tk) 0 s).1.map pv), Pw.row 33 bq [.int .u64 (qq : Nat)], objF tkV 65 ps tk]) := by
  all_goals
    refine Sat.enter Try.func30 rfl Try.ntmps30 rfl (fun c R => ?_)
    try simp only [List.cons_append, List.nil_append]
    repeat' (first
      | (refine T.atR 1 ?_; obtain ⟨b4, hb4⟩ : ∃ x, x = b := ⟨_, rfl⟩; subst hb4; refine T.ent (Ent.imp (show Imp _ (lsA b4 [] :: _) from (show Imp _ (exA _ _ :: _) from Imp.shutA (p := fun _ => True) ((none, 0) : Option Addr × Nat) trivial (by refine Imp.pull (by first | exact Del.head _ _ | exact Del.tail (Del.head _ _) | exact Del.tail (Del.tail (Del.head _ _)) | exact Del.tail (Del.tail (Del.tail (Del.head _ _))) | exact Del.tail (Del.tail (Del.tail (Del.tail (Del.head _ _)))) | exact Del.tail (Del.tail (Del.tail (Del.tail (Del.tail (Del.head _ _))))) | exact Del.tail (Del.tail (Del.tail (Del.tail (Del.tail (Del.tail (Del.head _ _)))))) | exact Del.tail (Del.tail (Del.tail (Del.tail (Del.tail (Del.tail (Del.tail (Del.head _ _))))))) | exact Del.tail (Del.tail (Del.tail (Del.tail (Del.tail (Del.tail (Del.tail (Del.tail (Del.head _ _))))))))) (Imp.slN (Imp.refl _)))))) ?_)
      | (refine T.atR 2 ?_; refine T.openA (p := fun _ => True) (by first | exact Del.head _ _ | exact Del.tail (Del.head _ _) | exact Del.tail (Del.tail (Del.head _ _)) | exact Del.tail (Del.tail (Del.tail (Del.head _ _))) | exact Del.tail (Del.tail (Del.tail (Del.tail (Del.head _ _)))) | exact Del.tail (Del.tail (Del.tail (Del.tail (Del.tail (Del.head _ _))))) | exact Del.tail (Del.tail (Del.tail (Del.tail (Del.tail (Del.tail (Del.head _ _)))))) | exact Del.tail (Del.tail (Del.tail (Del.tail (Del.tail (Del.tail (Del.tail (Del.head _ _))))))) | exact Del.tail (Del.tail (Del.tail (Del.tail (Del.tail (Del.tail (Del.tail (Del.tail (Del.head _ _))))))))) ?_; rintro ⟨a2, k2⟩ -; dsimp only; simp only [List.cons_append, List.nil_append, appR])
      | (exact Fini.of ⟨_, _, rfl, rfl⟩ (by repeat first | exact Imp.refl _ | (apply Imp.pull; focus ((repeat first | exact Del.head _ _ | apply Del.tail); done)) | apply Imp.drop))
      | (refine Vc.mk ⟨rfl, hr, hn, hl⟩ ?_)
      | (refine Vc.mk ⟨rfl, hr, hl⟩ ?_)
      | exact List.length_map _
      | exact (rfl : (61 : Nat) = 61)
      | exact trivial
      | (rw [List.length_map, Nat.mul_one])
      | refine And.intro (fun hc => ?_) (fun hc => ?_)
      | refine And.intro ?_ ?_
      | intro b
      | refine stp ?_
      | refine TQ.finCp ?_
      | refine TQ.finC2 ?_
      | refine TQ.finC3 ?_
      | refine ⟨fun hc => ?_, fun hc => ?_⟩
      | refine Ei.f ?_
      | refine ⟨?_, ?_⟩
      | intro b
      | omega
      | (dsimp only; omega)
      | fail)

end Go.Proofs.Ytcicmlmfnjkekaa

