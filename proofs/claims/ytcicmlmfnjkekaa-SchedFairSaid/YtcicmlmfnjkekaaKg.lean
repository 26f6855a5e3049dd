/- Lemmas for the proofs of this seat: no statement of the seat is claimed here. -/
import Derived.Test.YtcicmlmfnjkekaaKf
set_option linter.all false

namespace Go.Proofs.Ytcicmlmfnjkekaa
open Go Pw
set_option maxRecDepth 20000
set_option maxHeartbeats 4000000
set_option synthInstance.maxHeartbeats 400000
set_option synthInstance.maxSize 4000
set_option maxHeartbeats 1000000

/-- What the closures say of a task, and what they count. -/
def stepW (q : Nat) (most : Int) (tk : Nat → Tk) (n t : Nat) : Bool × Nat := if (tk t).qu ≠ q ∨ most ≤ n then (false, n) else (true, n + 1)
def stepT (now : Nat) (tk : Nat → Tk) (n t : Nat) : Bool × Nat := (decide ((tk t).un ≠ 0 ∧ (tk t).un ≤ now), n)
theorem stepW_f {q : Nat} {most : Int} {tk : Nat → Tk} {n t : Nat} (h : (tk t).qu ≠ q ∨ most ≤ n) : stepW q most tk n t = (false, n) := if_pos h
theorem stepW_t {q : Nat} {most : Int} {tk : Nat → Tk} {n t : Nat} (h : ¬ ((tk t).qu ≠ q ∨ most ≤ n)) : stepW q most tk n t = (true, n + 1) := if_neg h
attribute [local irreducible] stepW
theorem wake1_spec (t n : Nat) (bq bn bm qq : Nat) (most : Int) (ps : List Nat) (tk : Nat → Tk) (ht : t ∈ ps) (hn : n < 1000000000) :
    Sat Try.prog 38 [.pointer (some ⟨t, 0, none⟩), .pointer (some ⟨bq, 0, none⟩), .pointer (some ⟨bn, 0, none⟩), .pointer (some ⟨bm, 0, none⟩)] [Pw.row 29 bq [.int .u32 (qq : Nat)], Pw.row 3 bn [.int .i64 (n : Nat)], Pw.row 3 bm [.int .i64 most], objF tkV 65 ps tk] (fun u L' => u = .bool (stepW qq most tk n t).1 ∧ L' = [Pw.row 29 bq [.int .u32 (qq : Nat)], Pw.row 3 bn [.int .i64 ((stepW qq most tk n t).2 : Nat)], Pw.row 3 bm [.int .i64 most], objF tkV 65 ps tk]) := by
  all_goals
    refine Sat.enter Try.func38 rfl Try.ntmps38 rfl (fun c R => ?_)
    try simp only [List.cons_append, List.nil_append]
    repeat' (first
      | exact ht
      | (exact Fini.of ⟨by rw [stepW_f (by omega)]; rfl, by rw [stepW_f (by omega)]⟩ (by repeat first | exact Imp.refl _ | (apply Imp.pull; focus ((repeat first | exact Del.head _ _ | apply Del.tail); done)) | apply Imp.drop))
      | (exact Fini.of ⟨by rw [stepW_t (by omega)]; rfl, by rw [stepW_t (by omega)]⟩ (by repeat first | exact Imp.refl _ | (apply Imp.pull; focus ((repeat first | exact Del.head _ _ | apply Del.tail); done)) | apply Imp.drop))
      | refine T.pl 1 [] (.p 0 (.p 1 (.d 2 (.d 3 (.d 4 (.p 5 (.p 6 (.d 7 (.d 8 (.p 9 (.p 10 .fin))))))))))) ?_
      | refine And.intro (fun hc => ?_) (fun hc => ?_)
      | refine And.intro ?_ ?_
      | intro b
      | refine stp ?_
      | refine TQ.finC ?_
      | refine TQ.finC2 ?_
      | refine TQ.finC3 ?_
      | refine ⟨fun hc => ?_, fun hc => ?_⟩
      | refine Ei.f ?_
      | refine ⟨?_, ?_⟩
      | intro b
      | omega
      | (dsimp only; omega)
      | fail)
theorem tick1_spec (t n : Nat) (bq qq : Nat) (ps : List Nat) (tk : Nat → Tk) (ht : t ∈ ps) :
    Sat Try.prog 31 [.pointer (some ⟨t, 0, none⟩), .pointer (some ⟨bq, 0, none⟩)] [Pw.row 33 bq [.int .u64 (qq : Nat)], objF tkV 65 ps tk] (fun u L' => u = .bool (stepT qq tk n t).1 ∧ L' = [Pw.row 33 bq [.int .u64 (qq : Nat)], objF tkV 65 ps tk]) := by
  all_goals
    refine Sat.enter Try.func31 rfl Try.ntmps31 rfl (fun c R => ?_)
    try simp only [List.cons_append, List.nil_append]
    repeat' (first
      | exact ht
      | (exact Fini.of ⟨congrArg Value.bool (decide_eq_false (by omega)).symm, rfl⟩ (by repeat first | exact Imp.refl _ | (apply Imp.pull; focus ((repeat first | exact Del.head _ _ | apply Del.tail); done)) | apply Imp.drop))
      | (exact Fini.of ⟨congrArg Value.bool (decide_eq_decide.2 (by omega)), rfl⟩ (by repeat first | exact Imp.refl _ | (apply Imp.pull; focus ((repeat first | exact Del.head _ _ | apply Del.tail); done)) | apply Imp.drop))
      | refine T.pl 1 [] (.p 0 (.p 1 (.d 2 (.d 3 (.p 4 (.p 5 (.p 6 (.p 7 (.d 8 (.d 9 (.d 10 (.p 11 (.p 12 (.p 13 .fin)))))))))))))) ?_
      | refine And.intro (fun hc => ?_) (fun hc => ?_)
      | refine And.intro ?_ ?_
      | intro b
      | refine stp ?_
      | refine TQ.finC ?_
      | refine TQ.finC2 ?_
      | refine TQ.finC3 ?_
      | refine ⟨fun hc => ?_, fun hc => ?_⟩
      | refine Ei.f ?_
      | refine ⟨?_, ?_⟩
      | intro b
      | omega
      | (dsimp only; omega)
      | fail)

end Go.Proofs.Ytcicmlmfnjkekaa


namespace Go.Proofs.Ytcicmlmfnjkekaa
open Go Pw
set_option maxRecDepth 20000
set_option maxHeartbeats 4000000
set_option synthInstance.maxHeartbeats 400000
set_option synthInstance.maxSize 4000
set_option maxHeartbeats 1000000

/-- The list of those taken so far, wherever it lies. -/
def lsA (b : Nat) (l : List Nat) : Assn := exA (fun _ : Option Addr × Nat => True) (fun z => [Pw.row 60 b [.slice z.1 l.length z.2], sl 61 1 (.slice z.1 l.length z.2) l.length (l.map pv)])
theorem Imp.ls {b n2 : Nat} {l : List Nat} {a : Option Addr} {L L' R2 R3 : List Assn} (h1 : Del (Pw.row 60 b [.slice a l.length n2]) L R2) (h2 : Del (sl 61 1 (.slice a l.length n2) l.length (l.map pv)) R2 R3) (i : Imp R3 L') : Imp L (lsA b l :: L') := Imp.shutA (p := fun _ => True) (a, n2) trivial (Imp.pull h1 (Imp.pull h2 i))
class LsDel (L : List Assn) (b : Nat) (l : outParam (List Nat)) (R : outParam (List Assn)) : Prop where h : Del (lsA b l) L R
instance (priority := 1100) {L : List Assn} {b : Nat} {l : List Nat} : LsDel (lsA b l :: L) b l L := ⟨.head _ _⟩
instance {A : Assn} {L R : List Assn} {b : Nat} {l : List Nat} [k : LsDel L b l R] : LsDel (A :: L) b l (A :: R) := ⟨.tail k.h⟩
/-- One more, or not. -/
def addIf (c : Bool) (l : List Nat) (t : Nat) : List Nat := if c then l ++ [t] else l
attribute [local irreducible] stepW stepT
instance {L R0 R1 R2 R3 : List Assn} {t n : Nat} {x y : Int} {bq bn bm qq : Nat} {most : Int} {ps : List Nat} {tk : Nat → Tk} [hx : Nn x qq] [hy : Nn y n] [h0 : RowDel L bq 29 [.int .u32 x] R0] [h1 : RowDel R0 bn 3 [.int .i64 y] R1] [h2 : RowDel R1 bm 3 [.int .i64 most] R2] [h4 : ObjAt R2 Tk tkV 65 ps tk R3] : FnR Try.prog 38 [.pointer (some ⟨t, 0, none⟩), .pointer (some ⟨bq, 0, none⟩), .pointer (some ⟨bn, 0, none⟩), .pointer (some ⟨bm, 0, none⟩)] L (fun q => Vc (t ∈ ps ∧ n < 1000000000) (q (.bool (stepW qq most tk n t).1) (Pw.row 29 bq [.int .u32 (qq : Nat)] :: Pw.row 3 bn [.int .i64 ((stepW qq most tk n t).2 : Nat)] :: Pw.row 3 bm [.int .i64 most] :: objF tkV 65 ps tk :: R3))) :=
  ⟨fun q h => ⟨_, R3, _, wake1_spec t n bq bn bm qq most ps tk h.l.1 h.l.2, .cons (by have := h0.h; rw [hx.h] at this; exact this) (.cons (by have := h1.h; rw [hy.h] at this; exact this) (.cons h2.h (.cons h4.h (.nil _)))), fun v L' hv => by rw [hv.1, hv.2]; exact h.r⟩⟩
theorem wk_w (t n b3 b4 : Nat) (bq bn bm qq : Nat) (most : Int) (l ps : List Nat) (tk : Nat → Tk) (ht : t ∈ ps) (hn : n < 1000000000) (hl : l.length < 1000000000) :
    Sat Try.prog 49 [.pointer (some ⟨t, 0, none⟩), .pointer (some ⟨b3, 0, none⟩), .pointer (some ⟨b4, 0, none⟩)] [Pw.row 68 b3 [.func (.func 38) #[] #[.pointer (some ⟨bq, 0, none⟩), .pointer (some ⟨bn, 0, none⟩), .pointer (some ⟨bm, 0, none⟩)]], lsA b4 l, Pw.row 29 bq [.int .u32 (qq : Nat)], Pw.row 3 bn [.int .i64 (n : Nat)], Pw.row 3 bm [.int .i64 most], objF tkV 65 ps tk] (fun u L' => u = .bool (stepW qq most tk n t).1 ∧ L' = [Pw.row 68 b3 [.func (.func 38) #[] #[.pointer (some ⟨bq, 0, none⟩), .pointer (some ⟨bn, 0, none⟩), .pointer (some ⟨bm, 0, none⟩)]], lsA b4 (addIf (stepW qq most tk n t).1 l t), Pw.row 29 bq [.int .u32 (qq : Nat)], Pw.row 3 bn [.int .i64 ((stepW qq most tk n t).2 : Nat)], Pw.row 3 bm [.int .i64 most], objF tkV 65 ps tk]) := by
  refine Sat.openA (p := fun _ => True) (.tail (.head _ _)) ?_
  rintro ⟨a, k⟩ -
  dsimp only
  all_goals
    refine Sat.enter Try.func49 rfl Try.ntmps49 rfl (fun c R => ?_)
    try simp only [List.cons_append, List.nil_append]
    repeat' (first
      | (have hb : (stepW qq most tk n t).1 = true := hc; rw [show l.length + 1 = (l ++ [t]).length by simp, show l.map pv ++ [.pointer (some ⟨t, 0, none⟩)] = (l ++ [t]).map pv by simp]; exact Fini.of ⟨by rw [hb] <;> rfl, by rw [hb] <;> rfl⟩ (by exact (by repeat first | exact Imp.refl _ | (apply Imp.pull; focus ((repeat first | exact Del.head _ _ | apply Del.tail); done)) | (refine Imp.ls (by first | exact Del.head _ _ | exact Del.tail (Del.head _ _) | exact Del.tail (Del.tail (Del.head _ _)) | exact Del.tail (Del.tail (Del.tail (Del.head _ _))) | exact Del.tail (Del.tail (Del.tail (Del.tail (Del.head _ _)))) | exact Del.tail (Del.tail (Del.tail (Del.tail (Del.tail (Del.head _ _))))) | exact Del.tail (Del.tail (Del.tail (Del.tail (Del.tail (Del.tail (Del.head _ _)))))) | exact Del.tail (Del.tail (Del.tail (Del.tail (Del.tail (Del.tail (Del.tail (Del.head _ _))))))) | exact Del.tail (Del.tail (Del.tail (Del.tail (Del.tail (Del.tail (Del.tail (Del.tail (Del.head _ _))))))))) (by first | exact Del.head _ _ | exact Del.tail (Del.head _ _) | exact Del.tail (Del.tail (Del.head _ _)) | exact Del.tail (Del.tail (Del.tail (Del.head _ _))) | exact Del.tail (Del.tail (Del.tail (Del.tail (Del.head _ _)))) | exact Del.tail (Del.tail (Del.tail (Del.tail (Del.tail (Del.head _ _))))) | exact Del.tail (Del.tail (Del.tail (Del.tail (Del.tail (Del.tail (Del.head _ _)))))) | exact Del.tail (Del.tail (Del.tail (Del.tail (Del.tail (Del.tail (Del.tail (Del.head _ _))))))) | exact Del.tail (Del.tail (Del.tail (Del.tail (Del.tail (Del.tail (Del.tail (Del.tail (Del.head _ _))))))))) ?_) | apply Imp.drop)))
      | (have hb : (stepW qq most tk n t).1 = false := hc; exact Fini.of ⟨by rw [hb] <;> rfl, by rw [hb] <;> rfl⟩ (by exact (by repeat first | exact Imp.refl _ | (apply Imp.pull; focus ((repeat first | exact Del.head _ _ | apply Del.tail); done)) | (refine Imp.ls (by first | exact Del.head _ _ | exact Del.tail (Del.head _ _) | exact Del.tail (Del.tail (Del.head _ _)) | exact Del.tail (Del.tail (Del.tail (Del.head _ _))) | exact Del.tail (Del.tail (Del.tail (Del.tail (Del.head _ _)))) | exact Del.tail (Del.tail (Del.tail (Del.tail (Del.tail (Del.head _ _))))) | exact Del.tail (Del.tail (Del.tail (Del.tail (Del.tail (Del.tail (Del.head _ _)))))) | exact Del.tail (Del.tail (Del.tail (Del.tail (Del.tail (Del.tail (Del.tail (Del.head _ _))))))) | exact Del.tail (Del.tail (Del.tail (Del.tail (Del.tail (Del.tail (Del.tail (Del.tail (Del.head _ _))))))))) (by first | exact Del.head _ _ | exact Del.tail (Del.head _ _) | exact Del.tail (Del.tail (Del.head _ _)) | exact Del.tail (Del.tail (Del.tail (Del.head _ _))) | exact Del.tail (Del.tail (Del.tail (Del.tail (Del.head _ _)))) | exact Del.tail (Del.tail (Del.tail (Del.tail (Del.tail (Del.head _ _))))) | exact Del.tail (Del.tail (Del.tail (Del.tail (Del.tail (Del.tail (Del.head _ _)))))) | exact Del.tail (Del.tail (Del.tail (Del.tail (Del.tail (Del.tail (Del.tail (Del.head _ _))))))) | exact Del.tail (Del.tail (Del.tail (Del.tail (Del.tail (Del.tail (Del.tail (Del.tail (Del.head _ _))))))))) ?_) | apply Imp.drop)))
      | exact List.length_map _
      | exact (rfl : (61 : Nat) = 61)
      | exact trivial
      | (rw [List.length_map, Nat.mul_one])
      | exact ht
      | (refine Vc.mk ⟨ht, hn⟩ ?_)
      | refine And.intro (fun hc => ?_) (fun hc => ?_)
      | refine And.intro ?_ ?_
      | intro b
      | refine stp ?_
      | refine TQ.finC ?_
      | refine TQ.finC2 ?_
      | refine TQ.finC3 ?_
      | refine ⟨fun hc => ?_, fun hc => ?_⟩
      | refine Ei.f ?_
      | refine ⟨?_, ?_⟩
      | intro b
      | omega
      | (dsimp only; omega)
      | fail)
instance {L R0 R3 : List Assn} {t : Nat} {x : Int} {bq qq : Nat} {ps : List Nat} {tk : Nat → Tk} [hx : Nn x qq] [h0 : RowDel L bq 33 [.int .u64 x] R0] [h4 : ObjAt R0 Tk tkV 65 ps tk R3] : FnR Try.prog 31 [.pointer (some ⟨t, 0, none⟩), .pointer (some ⟨bq, 0, none⟩)] L (fun q => Vc (t ∈ ps) (q (.bool (stepT qq tk 0 t).1) (Pw.row 33 bq [.int .u64 (qq : Nat)] :: objF tkV 65 ps tk :: R3))) :=
  ⟨fun q h => ⟨_, R3, _, tick1_spec t 0 bq qq ps tk h.l, .cons (by have := h0.h; rw [hx.h] at this; exact this) (.cons h4.h (.nil _)), fun v L' hv => by rw [hv.1, hv.2]; exact h.r⟩⟩
theorem wk_t (t n b3 b4 : Nat) (bq qq : Nat) (l ps : List Nat) (tk : Nat → Tk) (ht : t ∈ ps) (hl : l.length < 1000000000) :
    Sat Try.prog 49 [.pointer (some ⟨t, 0, none⟩), .pointer (some ⟨b3, 0, none⟩), .pointer (some ⟨b4, 0, none⟩)] [Pw.row 68 b3 [.func (.func 31) #[] #[.pointer (some ⟨bq, 0, none⟩)]], lsA b4 l, Pw.row 33 bq [.int .u64 (qq : Nat)], objF tkV 65 ps tk] (fun u L' => u = .bool (stepT qq tk 0 t).1 ∧ L' = [Pw.row 68 b3 [.func (.func 31) #[] #[.pointer (some ⟨bq, 0, none⟩)]], lsA b4 (addIf (stepT qq tk 0 t).1 l t), Pw.row 33 bq [.int .u64 (qq : Nat)], objF tkV 65 ps tk]) := by
  refine Sat.openA (p := fun _ => True) (.tail (.head _ _)) ?_
  rintro ⟨a, k⟩ -
  dsimp only
  all_goals
    refine Sat.enter Try.func49 rfl Try.ntmps49 rfl (fun c R => ?_)
    try simp only [List.cons_append, List.nil_append]
    repeat' (first
      | (have hb : (stepT qq tk 0 t).1 = true := hc; rw [show l.length + 1 = (l ++ [t]).length by simp, show l.map pv ++ [.pointer (some ⟨t, 0, none⟩)] = (l ++ [t]).map pv by simp]; exact Fini.of ⟨by rw [hb] <;> rfl, by rw [hb] <;> rfl⟩ (by exact (by repeat first | exact Imp.refl _ | (apply Imp.pull; focus ((repeat first | exact Del.head _ _ | apply Del.tail); done)) | (refine Imp.ls (by first | exact Del.head _ _ | exact Del.tail (Del.head _ _) | exact Del.tail (Del.tail (Del.head _ _)) | exact Del.tail (Del.tail (Del.tail (Del.head _ _))) | exact Del.tail (Del.tail (Del.tail (Del.tail (Del.head _ _)))) | exact Del.tail (Del.tail (Del.tail (Del.tail (Del.tail (Del.head _ _))))) | exact Del.tail (Del.tail (Del.tail (Del.tail (Del.tail (Del.tail (Del.head _ _)))))) | exact Del.tail (Del.tail (Del.tail (Del.tail (Del.tail (Del.tail (Del.tail (Del.head _ _))))))) | exact Del.tail (Del.tail (Del.tail (Del.tail (Del.tail (Del.tail (Del.tail (Del.tail (Del.head _ _))))))))) (by first | exact Del.head _ _ | exact Del.tail (Del.head _ _) | exact Del.tail (Del.tail (Del.head _ _)) | exact Del.tail (Del.tail (Del.tail (Del.head _ _))) | exact Del.tail (Del.tail (Del.tail (Del.tail (Del.head _ _)))) | exact Del.tail (Del.tail (Del.tail (Del.tail (Del.tail (Del.head _ _))))) | exact Del.tail (Del.tail (Del.tail (Del.tail (Del.tail (Del.tail (Del.head _ _)))))) | exact Del.tail (Del.tail (Del.tail (Del.tail (Del.tail (Del.tail (Del.tail (Del.head _ _))))))) | exact Del.tail (Del.tail (Del.tail (Del.tail (Del.tail (Del.tail (Del.tail (Del.tail (Del.head _ _))))))))) ?_) | apply Imp.drop)))
      | (have hb : (stepT qq tk 0 t).1 = false := hc; exact Fini.of ⟨by rw [hb] <;> rfl, by rw [hb] <;> rfl⟩ (by exact (by repeat first | exact Imp.refl _ | (apply Imp.pull; focus ((repeat first | exact Del.head _ _ | apply Del.tail); done)) | (refine Imp.ls (by first | exact Del.head _ _ | exact Del.tail (Del.head _ _) | exact Del.tail (Del.tail (Del.head _ _)) | exact Del.tail (Del.tail (Del.tail (Del.head _ _))) | exact Del.tail (Del.tail (Del.tail (Del.tail (Del.head _ _)))) | exact Del.tail (Del.tail (Del.tail (Del.tail (Del.tail (Del.head _ _))))) | exact Del.tail (Del.tail (Del.tail (Del.tail (Del.tail (Del.tail (Del.head _ _)))))) | exact Del.tail (Del.tail (Del.tail (Del.tail (Del.tail (Del.tail (Del.tail (Del.head _ _))))))) | exact Del.tail (Del.tail (Del.tail (Del.tail (Del.tail (Del.tail (Del.tail (Del.tail (Del.head _ _))))))))) (by first | exact Del.head _ _ | exact Del.tail (Del.head _ _) | exact Del.tail (Del.tail (Del.head _ _)) | exact Del.tail (Del.tail (Del.tail (Del.head _ _))) | exact Del.tail (Del.tail (Del.tail (Del.tail (Del.head _ _)))) | exact Del.tail (Del.tail (Del.tail (Del.tail (Del.tail (Del.head _ _))))) | exact Del.tail (Del.tail (Del.tail (Del.tail (Del.tail (Del.tail (Del.head _ _)))))) | exact Del.tail (Del.tail (Del.tail (Del.tail (Del.tail (Del.tail (Del.tail (Del.head _ _))))))) | exact Del.tail (Del.tail (Del.tail (Del.tail (Del.tail (Del.tail (Del.tail (Del.tail (Del.head _ _))))))))) ?_) | apply Imp.drop)))
      | exact List.length_map _
      | exact (rfl : (61 : Nat) = 61)
      | exact trivial
      | (rw [List.length_map, Nat.mul_one])
      | exact ht
      | (refine Vc.mk ⟨ht, hn⟩ ?_)
      | refine And.intro (fun hc => ?_) (fun hc => ?_)
      | refine And.intro ?_ ?_
      | intro b
      | refine stp ?_
      | refine TQ.finC ?_
      | refine TQ.finC2 ?_
      | refine TQ.finC3 ?_
      | refine ⟨fun hc => ?_, fun hc => ?_⟩
      | refine Ei.f ?_
      | refine ⟨?_, ?_⟩
      | intro b
      | omega
      | (dsimp only; omega)
      | fail)

end Go.Proofs.Ytcicmlmfnjkekaa


namespace Go.Proofs.Ytcicmlmfnjkekaa
open Go Pw
set_option maxRecDepth 20000
set_option maxHeartbeats 4000000
set_option synthInstance.maxHeartbeats 400000
set_option synthInstance.maxSize 4000
set_option maxHeartbeats 1000000

/-- Those taken, those kept, the count: behind one task more; behind a row. -/
def stpF (st : Nat → Nat → Bool × Nat) (z : List Nat × List Nat × Nat) (t : Nat) : List Nat × List Nat × Nat := (addIf (st z.2.2 t).1 z.1 t, addIf (!(st z.2.2 t).1) z.2.1 t, (st z.2.2 t).2)
def runF (st : Nat → Nat → Bool × Nat) (n : Nat) (l : List Nat) : List Nat × List Nat × Nat := l.foldl (stpF st) ([], [], n)
theorem runF_next {st : Nat → Nat → Bool × Nat} {n : Nat} {l : List Nat} {j : Nat} (h : j < l.length) : runF st n (l.take (j + 1)) = stpF st (runF st n (l.take j)) (gt l j) := by
  rw [take_gt h, runF, List.foldl_append]; rfl
theorem addIf_len (c : Bool) (l : List Nat) (t : Nat) : (addIf c l t).length ≤ l.length + 1 := by unfold addIf; split <;> simp
theorem runF_len (st : Nat → Nat → Bool × Nat) (n : Nat) (l : List Nat) : ∀ j, j ≤ l.length → (runF st n (l.take j)).1.length ≤ j ∧ (runF st n (l.take j)).2.1.length ≤ j
  | 0, _ => ⟨Nat.le_refl _, Nat.le_refl _⟩
  | j + 1, h => by
    have ih := runF_len st n l j (by omega)
    rw [runF_next (by omega)]
    have h1 := addIf_len (st (runF st n (l.take j)).2.2 (gt l j)).1 (runF st n (l.take j)).1 (gt l j)
    have h2 := addIf_len (!(st (runF st n (l.take j)).2.2 (gt l j)).1) (runF st n (l.take j)).2.1 (gt l j)
    exact ⟨by show (addIf _ _ _).length ≤ _; omega, by show (addIf _ _ _).length ≤ _; omega⟩
theorem stepW_n (q : Nat) (most : Int) (tk : Nat → Tk) (n t : Nat) : (stepW q most tk n t).2 ≤ n + 1 := by
  unfold stepW; split
  · exact Nat.le_succ _
  · exact Nat.le_refl _
theorem runW_n (q : Nat) (most : Int) (tk : Nat → Tk) (n : Nat) (l : List Nat) : ∀ j, j ≤ l.length → (runF (stepW q most tk) n (l.take j)).2.2 ≤ n + j
  | 0, _ => Nat.le_refl _
  | j + 1, h => by
    have ih := runW_n q most tk n l j (by omega)
    rw [runF_next (by omega)]
    have := stepW_n q most tk (runF (stepW q most tk) n (l.take j)).2.2 (gt l j)
    show (stepW q most tk _ _).2 ≤ _
    omega
theorem runT_n (q : Nat) (tk : Nat → Tk) (n : Nat) (l : List Nat) : ∀ j, j ≤ l.length → (runF (stepT q tk) n (l.take j)).2.2 = n
  | 0, _ => rfl
  | j + 1, h => by
    have ih := runT_n q tk n l j (by omega)
    rw [runF_next (by omega)]
    exact ih
attribute [local irreducible] stepW stepT runF
instance {Ra Rb R0 R1 R2 R3 L : List Assn} {x y : Int} {n : Nat} {t b3 b4 : Nat} {bq bn bm qq : Nat} {most : Int} {l ps : List Nat} {tk : Nat → Tk} [hf : RowDel L b3 68 [.func (.func 38) #[] #[.pointer (some ⟨bq, 0, none⟩), .pointer (some ⟨bn, 0, none⟩), .pointer (some ⟨bm, 0, none⟩)]] Ra] [hl : LsDel Ra b4 l Rb] [hx : Nn x qq] [hy : Nn y n] [h0 : RowDel Rb bq 29 [.int .u32 x] R0] [h1 : RowDel R0 bn 3 [.int .i64 y] R1] [h2 : RowDel R1 bm 3 [.int .i64 most] R2] [h4 : ObjAt R2 Tk tkV 65 ps tk R3] : FnR Try.prog 49 [.pointer (some ⟨t, 0, none⟩), .pointer (some ⟨b3, 0, none⟩), .pointer (some ⟨b4, 0, none⟩)] L (fun q => Vc (t ∈ ps ∧ n < 1000000000 ∧ l.length < 1000000000) (q (.bool (stepW qq most tk n t).1) (Pw.row 68 b3 [.func (.func 38) #[] #[.pointer (some ⟨bq, 0, none⟩), .pointer (some ⟨bn, 0, none⟩), .pointer (some ⟨bm, 0, none⟩)]] :: lsA b4 (addIf (stepW qq most tk n t).1 l t) :: Pw.row 29 bq [.int .u32 (qq : Nat)] :: Pw.row 3 bn [.int .i64 ((stepW qq most tk n t).2 : Nat)] :: Pw.row 3 bm [.int .i64 most] :: objF tkV 65 ps tk :: R3))) :=
  ⟨fun q h => ⟨_, R3, _, wk_w t n b3 b4 bq bn bm qq most l ps tk h.l.1 h.l.2.1 h.l.2.2, .cons hf.h (.cons hl.h (.cons (by have := h0.h; rw [hx.h] at this; exact this) (.cons (by have := h1.h; rw [hy.h] at this; exact this) (.cons h2.h (.cons h4.h (.nil _)))))), fun v L' hv => by rw [hv.1, hv.2]; exact h.r⟩⟩
theorem idx_w (n k b3 b4 : Nat) (a : Option Addr) (bq bn bm qq : Nat) (most : Int) (s ps : List Nat) (tk : Nat → Tk) (hr : ∀ q ∈ s, q ∈ ps) (hn : n + s.length < 1000000000) (hl : s.length < 1000000000) :
    Sat Try.prog 27 [.slice a s.length k, .func (.func 49) #[] #[.pointer (some ⟨b3, 0, none⟩), .pointer (some ⟨b4, 0, none⟩)]] [sl 61 1 (.slice a s.length k) s.length (s.map pv), Pw.row 68 b3 [.func (.func 38) #[] #[.pointer (some ⟨bq, 0, none⟩), .pointer (some ⟨bn, 0, none⟩), .pointer (some ⟨bm, 0, none⟩)]], lsA b4 [], Pw.row 29 bq [.int .u32 (qq : Nat)], Pw.row 3 bn [.int .i64 (n : Nat)], Pw.row 3 bm [.int .i64 most], objF tkV 65 ps tk] (fun u L' => (u = .int .i64 (-1) ∧ (runF (stepW qq most tk) n s).1 = [] ∧ (runF (stepW qq most tk) n s).2.1 = s ∧ L' = [sl 61 1 (.slice a s.length k) s.length (s.map pv), Pw.row 68 b3 [.func (.func 38) #[] #[.pointer (some ⟨bq, 0, none⟩), .pointer (some ⟨bn, 0, none⟩), .pointer (some ⟨bm, 0, none⟩)]], lsA b4 (runF (stepW qq most tk) n s).1, Pw.row 29 bq [.int .u32 (qq : Nat)], Pw.row 3 bn [.int .i64 ((runF (stepW qq most tk) n s).2.2 : Nat)], Pw.row 3 bm [.int .i64 most], objF tkV 65 ps tk]) ∨ (∃ i : Nat, i < s.length ∧ u = .int .i64 (i : Nat) ∧ (runF (stepW qq most tk) n (s.take (i + 1))).2.1 = s.take i ∧ L' = [sl 61 1 (.slice a s.length k) s.length (s.map pv), Pw.row 68 b3 [.func (.func 38) #[] #[.pointer (some ⟨bq, 0, none⟩), .pointer (some ⟨bn, 0, none⟩), .pointer (some ⟨bm, 0, none⟩)]], lsA b4 (runF (stepW qq most tk) n (s.take (i + 1))).1, Pw.row 29 bq [.int .u32 (qq : Nat)], Pw.row 3 bn [.int .i64 ((runF (stepW qq most tk) n (s.take (i + 1))).2.2 : Nat)], Pw.row 3 bm [.int .i64 most], objF tkV 65 ps tk])) := by
  all_goals
    refine Sat.enter Try.func27 rfl Try.ntmps27 rfl (fun c R => ?_)
    try simp only [List.cons_append, List.nil_append]
    repeat' (first
      | (refine T.atB 0 ?_; refine T.lpa 0 [(0, _), (1, _), (7, _)] ((0, ([], [], n)) : Nat × (List Nat × List Nat × Nat)) (fun z => [(8, .int .i64 (z.1 : Nat))]) (fun z => [lsA b4 z.2.1, Pw.row 29 bq [.int .u32 (qq : Nat)], Pw.row 3 bn [.int .i64 (z.2.2.2 : Nat)], Pw.row 3 bm [.int .i64 most]]) (fun z => z.1 ≤ s.length ∧ z.2 = (runF (stepW qq most tk) n (s.take z.1)) ∧ z.2.1 = [] ∧ z.2.2.1 = s.take z.1) (fun z => s.length - z.1) ⟨Nat.zero_le _, by unfold runF; rfl, rfl, rfl⟩ ?_; rintro ⟨j, tk9, kp9, n9⟩ g ⟨hI, hz, hz1, hz2⟩; dsimp only at hI hz hz1 hz2 ⊢; have hn9 := runW_n qq most tk n s j hI; rw [← hz] at hn9; dsimp only at hn9; subst hz1; simp only [List.cons_append, List.nil_append, appR])
      | (refine TQ.atL ?_; have hj : j < s.length := (by omega); have hnx := runF_next (st := stepW qq most tk) (n := n) hj; rw [← hz] at hnx; have hb : (stepW qq most tk n9 (gt s j)).1 = false := hc; refine TQ.rd ((j + 1, (addIf (stepW qq most tk n9 (gt s j)).1 [] (gt s j), addIf (!(stepW qq most tk n9 (gt s j)).1) kp9 (gt s j), (stepW qq most tk n9 (gt s j)).2)) : Nat × (List Nat × List Nat × Nat)) rfl ⟨rfl, rfl, rfl, rfl, trivial⟩ ⟨by dsimp only; omega, by dsimp only; rw [hnx]; rfl, by dsimp only; rw [hb]; rfl, by dsimp only; rw [hb, hz2, take_gt hj]; rfl⟩ (by dsimp only; omega) (Ent.imp (by repeat first | exact Imp.refl _ | (apply Imp.pull; focus ((repeat first | exact Del.head _ _ | apply Del.tail); done)) | apply Imp.drop)))
      | (have hj : j < s.length := (by omega); have hnx := runF_next (st := stepW qq most tk) (n := n) hj; rw [← hz] at hnx; have hb : (stepW qq most tk n9 (gt s j)).1 = true := hc; exact Fini.of (.inr ⟨j, hj, rfl, by rw [hnx]; show addIf (!(stepW qq most tk n9 (gt s j)).1) kp9 (gt s j) = _; rw [hb, hz2] <;> rfl, by rw [hnx] <;> rfl⟩) (by repeat first | exact Imp.refl _ | (apply Imp.pull; focus ((repeat first | exact Del.head _ _ | apply Del.tail); done)) | apply Imp.drop))
      | (have ej : j = s.length := (by omega); subst ej; rw [List.take_length] at hz hz2; exact Fini.of (.inl ⟨rfl, by rw [← hz], by rw [← hz]; exact hz2, by rw [← hz]⟩) (by exact (by repeat first | exact Imp.refl _ | (apply Imp.pull; focus ((repeat first | exact Del.head _ _ | apply Del.tail); done)) | apply Imp.drop)))
      | (refine Vc.mk ⟨hr _ (gt_mem (by omega)), by omega, by simp⟩ ?_)
      | (refine Vc.mk ⟨hr _ (gt_mem (by omega)), by simp⟩ ?_)
      | refine And.intro (fun hc => ?_) (fun hc => ?_)
      | refine And.intro ?_ ?_
      | intro b
      | refine stp ?_
      | refine TQ.finC ?_
      | refine TQ.finC2 ?_
      | refine TQ.finC3 ?_
      | refine ⟨fun hc => ?_, fun hc => ?_⟩
      | refine Ei.f ?_
      | refine ⟨?_, ?_⟩
      | intro b
      | omega
      | (dsimp only; omega)
      | fail)
instance {Ra Rb R2 R3 L : List Assn} {x : Int} {t b3 b4 : Nat} {bq qq : Nat} {l ps : List Nat} {tk : Nat → Tk} [hf : RowDel L b3 68 [.func (.func 31) #[] #[.pointer (some ⟨bq, 0, none⟩)]] Ra] [hl : LsDel Ra b4 l Rb] [hx : Nn x qq] [h0 : RowDel Rb bq 33 [.int .u64 x] R2] [h4 : ObjAt R2 Tk tkV 65 ps tk R3] : FnR Try.prog 49 [.pointer (some ⟨t, 0, none⟩), .pointer (some ⟨b3, 0, none⟩), .pointer (some ⟨b4, 0, none⟩)] L (fun q => Vc (t ∈ ps ∧ l.length < 1000000000) (q (.bool (stepT qq tk 0 t).1) (Pw.row 68 b3 [.func (.func 31) #[] #[.pointer (some ⟨bq, 0, none⟩)]] :: lsA b4 (addIf (stepT qq tk 0 t).1 l t) :: Pw.row 33 bq [.int .u64 (qq : Nat)] :: objF tkV 65 ps tk :: R3))) :=
  ⟨fun q h => ⟨_, R3, _, wk_t t 0 b3 b4 bq qq l ps tk h.l.1 h.l.2, .cons hf.h (.cons hl.h (.cons (by have := h0.h; rw [hx.h] at this; exact this) (.cons h4.h (.nil _)))), fun v L' hv => by rw [hv.1, hv.2]; exact h.r⟩⟩
theorem idx_t (n k b3 b4 : Nat) (a : Option Addr) (bq qq : Nat) (s ps : List Nat) (tk : Nat → Tk) (hr : ∀ q ∈ s, q ∈ ps) (hl : s.length < 1000000000) :
    Sat Try.prog 27 [.slice a s.length k, .func (.func 49) #[] #[.pointer (some ⟨b3, 0, none⟩), .pointer (some ⟨b4, 0, none⟩)]] [sl 61 1 (.slice a s.length k) s.length (s.map pv), Pw.row 68 b3 [.func (.func 31) #[] #[.pointer (some ⟨bq, 0, none⟩)]], lsA b4 [], Pw.row 33 bq [.int .u64 (qq : Nat)], objF tkV 65 ps tk] (fun u L' => (u = .int .i64 (-1) ∧ (runF (stepT qq tk) 0 s).1 = [] ∧ (runF (stepT qq tk) 0 s).2.1 = s ∧ L' = [sl 61 1 (.slice a s.length k) s.length (s.map pv), Pw.row 68 b3 [.func (.func 31) #[] #[.pointer (some ⟨bq, 0, none⟩)]], lsA b4 (runF (stepT qq tk) 0 s).1, Pw.row 33 bq [.int .u64 (qq : Nat)], objF tkV 65 ps tk]) ∨ (∃ i : Nat, i < s.length ∧ u = .int .i64 (i : Nat) ∧ (runF (stepT qq tk) 0 (s.take (i + 1))).2.1 = s.take i ∧ L' = [sl 61 1 (.slice a s.length k) s.length (s.map pv), Pw.row 68 b3 [.func (.func 31) #[] #[.pointer (some ⟨bq, 0, none⟩)]], lsA b4 (runF (stepT qq tk) 0 (s.take (i + 1))).1, Pw.row 33 bq [.int .u64 (qq : Nat)], objF tkV 65 ps tk])) := by
  all_goals
    refine Sat.enter Try.func27 rfl Try.ntmps27 rfl (fun c R => ?_)
    try simp only [List.cons_append, List.nil_append]
    repeat' (first
      | (refine T.atB 0 ?_; refine T.lpa 0 [(0, _), (1, _), (7, _)] ((0, ([], [], 0)) : Nat × (List Nat × List Nat × Nat)) (fun z => [(8, .int .i64 (z.1 : Nat))]) (fun z => [lsA b4 z.2.1, Pw.row 33 bq [.int .u64 (qq : Nat)]]) (fun z => z.1 ≤ s.length ∧ z.2 = (runF (stepT qq tk) 0 (s.take z.1)) ∧ z.2.1 = [] ∧ z.2.2.1 = s.take z.1) (fun z => s.length - z.1) ⟨Nat.zero_le _, by unfold runF; rfl, rfl, rfl⟩ ?_; rintro ⟨j, tk9, kp9, n9⟩ g ⟨hI, hz, hz1, hz2⟩; dsimp only at hI hz hz1 hz2 ⊢; have hn9 := runT_n qq tk 0 s j hI; rw [← hz] at hn9; dsimp only at hn9; subst hn9; subst hz1; simp only [List.cons_append, List.nil_append, appR])
      | (refine TQ.atL ?_; have hj : j < s.length := (by omega); have hnx := runF_next (st := stepT qq tk) (n := 0) hj; rw [← hz] at hnx; have hb : (stepT qq tk 0 (gt s j)).1 = false := hc; refine TQ.rd ((j + 1, (addIf (stepT qq tk 0 (gt s j)).1 [] (gt s j), addIf (!(stepT qq tk 0 (gt s j)).1) kp9 (gt s j), (stepT qq tk 0 (gt s j)).2)) : Nat × (List Nat × List Nat × Nat)) rfl ⟨rfl, rfl, rfl, rfl, trivial⟩ ⟨by dsimp only; omega, by dsimp only; rw [hnx]; rfl, by dsimp only; rw [hb]; rfl, by dsimp only; rw [hb, hz2, take_gt hj]; rfl⟩ (by dsimp only; omega) (Ent.imp (by repeat first | exact Imp.refl _ | (apply Imp.pull; focus ((repeat first | exact Del.head _ _ | apply Del.tail); done)) | apply Imp.drop)))
      | (have hj : j < s.length := (by omega); have hnx := runF_next (st := stepT qq tk) (n := 0) hj; rw [← hz] at hnx; have hb : (stepT qq tk 0 (gt s j)).1 = true := hc; exact Fini.of (.inr ⟨j, hj, rfl, by rw [hnx]; show addIf (!(stepT qq tk 0 (gt s j)).1) kp9 (gt s j) = _; rw [hb, hz2] <;> rfl, by rw [hnx] <;> rfl⟩) (by repeat first | exact Imp.refl _ | (apply Imp.pull; focus ((repeat first | exact Del.head _ _ | apply Del.tail); done)) | apply Imp.drop))
      | (have ej : j = s.length := (by omega); subst ej; rw [List.take_length] at hz hz2; exact Fini.of (.inl ⟨rfl, by rw [← hz], by rw [← hz]; exact hz2, by rw [← hz]⟩) (by exact (by repeat first | exact Imp.refl _ | (apply Imp.pull; focus ((repeat first | exact Del.head _ _ | apply Del.tail); done)) | apply Imp.drop)))
      | (refine Vc.mk ⟨hr _ (gt_mem (by omega)), by omega, by simp⟩ ?_)
      | (refine Vc.mk ⟨hr _ (gt_mem (by omega)), by simp⟩ ?_)
      | refine And.intro (fun hc => ?_) (fun hc => ?_)
      | refine And.intro ?_ ?_
      | intro b
      | refine stp ?_
      | refine TQ.finC ?_
      | refine TQ.finC2 ?_
      | refine TQ.finC3 ?_
      | refine ⟨fun hc => ?_, fun hc => ?_⟩
      | refine Ei.f ?_
      | refine ⟨?_, ?_⟩
      | intro b
      | omega
      | (dsimp only; omega)
      | fail)

end Go.Proofs.Ytcicmlmfnjkekaa

