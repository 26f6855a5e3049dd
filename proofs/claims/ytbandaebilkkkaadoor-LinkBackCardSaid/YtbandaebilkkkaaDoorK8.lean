/- Lemmas for the proofs of this seat: no statement of the seat is claimed here. -/
import Derived.Test.YtbandaebilkkkaaDoorP8
set_option linter.all false
namespace Go.Proofs.YtbandaebilkkkaaDoor
open Go Pw
set_option maxRecDepth 20000
set_option maxHeartbeats 4000000
theorem pc40 : placesOf Tryd.prog 40 = some [(0, 1), (1, 1), (2, 1)] := by kernel_rfl
theorem pl3 : plainT Tryd.prog 3 = true := by kernel_rfl
theorem pl32 : plainT Tryd.prog 32 = true := by kernel_rfl

theorem tidy_spec (q : Tb) (l : List Nr) (v : Value) (p : Nat) (hlen : l.length ≤ 1048576) (now : Nat) :
    Sat Tryd.prog 34 [.pointer (some ⟨p, 0, none⟩), .int .u64 now] [row 64 p (tabV q v), sl 40 3 v (l).length ((l).flatMap nearV)] (fun u L' => u = .tuple #[] ∧ ∃ v2, L' = [row 64 p (tabV q v2), sl 40 3 v2 (tidyE now l).length ((tidyE now l).flatMap nearV)]) := by
  refine Sat.enter Tryd.func34 rfl Tryd.ntmps34 rfl (fun c R => ?_)
  try simp only [List.cons_append, List.nil_append]
  refine T.seq ?_
  refine T.reg ?_
  refine TO.n (N.bx1 (by conv => lhs; whnf) (by rfl)) ?_
  rintro _ _ ⟨b3, rfl, rfl⟩
  refine TO.nil ?_
  refine TQ.nn ?_
  refine T.reg ?_
  refine TO.p (DP.mv (by conv => lhs; whnf)) ?_
  refine TO.p (DP.mv (by conv => lhs; whnf)) ?_
  refine TO.p (DP.nck rfl) ?_
  refine TO.p (DP.fa 4 rfl Tryd.underlying64 rfl rfl sz32) ?_
  refine TO.d (D.ldR (v := v) rfl pl32 (by (repeat first | exact LMem.head _ _ | apply LMem.tail)) rfl) ?_
  refine TO.p (DP.mfL (us := []) (vs := [_]) trivial ⟨(by conv => lhs; whnf), trivial⟩) ?_
  refine TO.n (N.callF (nr_delete_func v l b3 now hlen) Tryd.call49 ⟨rfl, rfl, trivial⟩ (by (repeat first | exact Pick.nil _ | (apply Pick.cons; focus ((repeat first | exact Del.head _ _ | apply Del.tail); done))))) ?_
  rintro u10 _ ⟨_, rfl, rfl⟩
  try simp only [List.cons_append, List.nil_append]
  refine TO.p (DP.nck rfl) ?_
  refine TO.p (DP.fa 4 rfl Tryd.underlying64 rfl rfl sz32) ?_
  refine TO.n0 (N.stS rfl rfl sz32 (by (repeat first | exact LMem.head _ _ | apply LMem.tail)) (by (repeat first | exact Put.head _ _ _ | apply Put.tail)) (by simp [tabV])) ?_
  rintro _ _ ⟨rfl, rfl⟩
  refine TO.nil ?_
  refine TQ.end (vs := []) (L' := [row 64 p (tabV q u10), sl 40 3 u10 (tidyE now l).length ((tidyE now l).flatMap nearV)]) rfl rfl ⟨rfl, _, rfl⟩ (by (refine Ent.imp ?_; repeat first | exact Imp.refl _ | exact Imp.nil _ | (apply Imp.pull; focus ((repeat first | exact Del.head _ _ | apply Del.tail); done)) | (apply Imp.row; focus ((repeat first | exact Del.head _ _ | apply Del.tail); done)) | apply Imp.drop))

theorem insert_at (vb i : Nat) (v : Value) (l : List Nr) (x : Nr) (hn : l.length ≤ 1048576) (hi : i ≤ l.length) :
    Sat Tryd.prog 36 [v, .int .i64 i, .slice (some ⟨vb, 0, none⟩) 1 1] [sl 40 3 v l.length (l.flatMap nearV), pt vb (.cells (nearV x).toArray 40 (0, 0))]
      (fun u L' => L' = [sl 40 3 u (l.take i ++ x :: l.drop i).length ((l.take i ++ x :: l.drop i).flatMap nearV)]) := by
  have h := nr_insert_cells vb i l.length v ((l.take i).flatMap nearV) ((l.drop i).flatMap nearV) (nearV x) (nearV_len x) (nearV_one x) hn hi (by rw [flat_len nearV_len, List.length_take]; congr 1; omega) (by rw [flat_len nearV_len, List.length_drop])
    (fun u hu => by obtain ⟨y, _, hy⟩ := List.mem_flatMap.1 hu; exact nearV_one y u hy)
  rw [← List.flatMap_append, List.take_append_drop, ← List.flatMap_singleton nearV x, ← List.flatMap_append, ← List.flatMap_append, List.append_assoc, List.singleton_append] at h
  rw [show (l.take i ++ x :: l.drop i).length = l.length + 1 by simp; omega]
  rw [List.flatMap_singleton] at h
  exact h
theorem find_raw (v : Value) (l : List Nr) (a : Nat) (hlen : l.length ≤ 1048576) (hs : Srt l) : Sat Tryd.prog 51 [v, .int .u32 a, .func (.func 52) #[] #[]] [sl 40 3 v l.length (l.flatMap nearV)]
    (fun u L' => u = .tuple #[.int .i64 (posE a l : Nat), .bool (hasE a l)] ∧ L' = [sl 40 3 v l.length (l.flatMap nearV)]) := by
  refine (nr_bsf_spec v l a hlen (fun m k x y hmk hx hy h => by rw [cmp_lt] at h ⊢; have := srt_get hs hmk hx hy; omega)).post ?_
  rintro u L' ⟨i, fd, rfl, hi, h1, h2, h3, rfl⟩
  simp only [cmp_lt, cmp_ge, cmp_eq] at h1 h2 h3
  have hp := pos_eq a l i hi h1 h2
  subst hp
  have hf : fd = hasE a l := by
    rw [Bool.eq_iff_iff, h3, has_pos hs]
  subst hf
  exact ⟨_, Imp.refl _, rfl, rfl⟩

theorem find_spec (q : Tb) (l : List Nr) (v : Value) (p : Nat) (hlen : l.length ≤ 1048576) (a : Nat) (hs : Srt l) :
    Sat Tryd.prog 35 [.pointer (some ⟨p, 0, none⟩), .int .u32 a] [row 64 p (tabV q v), sl 40 3 v (l).length ((l).flatMap nearV)] (fun u L' => u = .tuple #[.int .i64 (posE a l : Nat), .bool (hasE a l)] ∧ L' = [row 64 p (tabV q v), sl 40 3 v (l).length ((l).flatMap nearV)]) := by
  refine Sat.enter Tryd.func35 rfl Tryd.ntmps35 rfl (fun c R => ?_)
  try simp only [List.cons_append, List.nil_append]
  refine T.seq ?_
  refine T.reg ?_
  refine TO.p (DP.as (by conv => lhs; whnf)) ?_
  refine TO.p (DP.as (by conv => lhs; whnf)) ?_
  refine TO.nil ?_
  refine TQ.nn ?_
  refine T.seq ?_
  refine T.reg ?_
  refine TO.p (DP.mv (by conv => lhs; whnf)) ?_
  refine TO.p (DP.nck rfl) ?_
  refine TO.p (DP.fa 4 rfl Tryd.underlying64 rfl rfl sz32) ?_
  refine TO.d (D.ldR (v := v) rfl pl32 (by (repeat first | exact LMem.head _ _ | apply LMem.tail)) rfl) ?_
  refine TO.p (DP.mv (by conv => lhs; whnf)) ?_
  refine TO.n (N.callF (find_raw v l a hlen hs) Tryd.call51 ⟨rfl, rfl, rfl, trivial⟩ (by (repeat first | exact Pick.nil _ | (apply Pick.cons; focus ((repeat first | exact Del.head _ _ | apply Del.tail); done))))) ?_
  rintro u11 _ ⟨_, ⟨rfl, rfl⟩, rfl⟩
  try simp only [List.cons_append, List.nil_append]
  refine TO.p (DP.ex rfl rfl) ?_
  refine TO.p (DP.ex rfl rfl) ?_
  refine TO.p (DP.as (by conv => lhs; whnf)) ?_
  refine TO.p (DP.as (by conv => lhs; whnf)) ?_
  refine TO.nil ?_
  refine TQ.nn ?_
  refine T.ret ?_
  refine TQ.ret (vs := [.int .i64 (posE a l : Nat), .bool (hasE a l)]) (L' := [row 64 p (tabV q v), sl 40 3 v (l).length ((l).flatMap nearV)]) rfl ⟨rfl, rfl, rfl⟩ ⟨rfl, rfl⟩ (by (refine Ent.imp ?_; repeat first | exact Imp.refl _ | exact Imp.nil _ | (apply Imp.pull; focus ((repeat first | exact Del.head _ _ | apply Del.tail); done)) | (apply Imp.row; focus ((repeat first | exact Del.head _ _ | apply Del.tail); done)) | apply Imp.drop))
end Go.Proofs.YtbandaebilkkkaaDoor
