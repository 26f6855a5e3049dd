/- Lemmas for the proofs of this seat: no statement of the seat is claimed here. -/
import Derived.Test.YtbandaebilkkkaaDoorK2
import Derived.Test.YtbandaebilkkkaaDoorShelf
set_option linter.all false
namespace Go.Proofs.YtbandaebilkkkaaDoor
open Go Pw
set_option maxRecDepth 20000
set_option maxHeartbeats 4000000
theorem ag34 : aggT Tryd.prog 34 = true := by kernel_rfl
theorem ag48 : aggT Tryd.prog 48 = true := by kernel_rfl
theorem ag74 : aggT Tryd.prog 74 = true := by kernel_rfl
theorem pl9 : plainT Tryd.prog 9 = true := by kernel_rfl
theorem pl22 : plainT Tryd.prog 22 = true := by kernel_rfl
theorem sz9 : Tryd.prog.cellsOf 9 = 0 + 1 := by kernel_rfl
theorem sz22 : Tryd.prog.cellsOf 22 = 0 + 1 := by kernel_rfl
theorem sz34 : Tryd.prog.cellsOf 34 = 4 + 1 := by kernel_rfl
theorem sz48 : Tryd.prog.cellsOf 48 = 3 + 1 := by kernel_rfl
theorem sz74 : Tryd.prog.cellsOf 74 = 5 + 1 := by kernel_rfl
theorem zr74 : Tryd.prog.zeroOf 74 = some (.agg #[.int .u8 0, .int .u8 0, .int .u8 0, .int .u8 0, .int .u8 0, .int .u8 0]) := by kernel_rfl

theorem repeatL_zero (n : Nat) : Lib.repeatL [0] n = List.replicate n 0 := by
  induction n with
  | zero => rfl
  | succ n ih => rw [Lib.repeatL, ih]; rfl
theorem repeat_spec (n : Nat) (hn : n ≤ 1000) : Sat Tryd.prog 40 [str [0], .int .i64 n] [] (fun u L' => u = str (List.replicate n 0) ∧ L' = []) :=
  Sat.of_below fun w => by
    have := Tryd.strings_Repeat ⟨#[0]⟩ n w (by omega) (by show 1 * n ≤ _; omega)
    rw [show (ByteArray.mk #[0]).data.toList = [0] from rfl, repeatL_zero] at this
    exact this
theorem trim_spec (m : List UInt8) (hm : m.length ≤ 1048576) : Sat Tryd.prog 46 [str m, str [0]] [] (fun u L' => u = str (Lib.trimB m 0) ∧ L' = []) :=
  Sat.of_drew fun w => by
    have := Tryd.strings_Trim_one ⟨m.toArray⟩ 0 (by decide) w (by show m.toArray.size ≤ _; rw [List.size_toArray]; omega)
    exact this
theorem join_flat : ∀ (xs : List (List UInt8)), Lib.join xs [] = xs.flatten
  | [] => rfl
  | x :: r => by
    rw [Lib.join_cons, List.flatten_cons, Lib.joinTail]
    simp
theorem join_data (xs : List (List UInt8)) : (xs.map fun l => (⟨l.toArray⟩ : ByteArray)).map (·.data.toList) = xs := by
  induction xs with
  | nil => rfl
  | cons x r ih => rw [List.map_cons, List.map_cons, ih]
theorem joins_spec (b : Nat) (xs : List (List UInt8)) (fr : Nat × Nat) (hN : xs.length ≤ 1000) (hl : xs.flatten.length ≤ 1048576) :
    Sat Tryd.prog 56 [.slice (some ⟨b, 0, none⟩) xs.length xs.length, str []] [pt b (.cells (xs.map str).toArray 9 fr)] (fun u L' => u = str xs.flatten ∧ L' = [pt b (.cells (xs.map str).toArray 9 fr)]) :=
  Sat.of_row fun w h1 h2 => by
    have := Tryd.strings_Join b 0 xs.length (xs.map fun l => (⟨l.toArray⟩ : ByteArray)) ⟨#[]⟩ w (fun j x hj => by
      rw [Nat.zero_add]
      refine h1 j _ ?_
      rw [List.getElem?_map] at hj
      simp only [List.getElem?_toArray, List.getElem?_map]
      cases hx : xs[j]? with
      | none => rw [hx] at hj; cases hj
      | some y => rw [hx] at hj; cases hj; rfl) h2 (by rw [List.length_map]; omega) (by rw [List.length_map]; omega) (by
        rw [join_data, show (ByteArray.mk #[]).data.toList = [] from rfl, join_flat]; omega)
    rw [join_data, show (ByteArray.mk #[]).data.toList = [] from rfl, join_flat, List.length_map] at this
    exact this
theorem trim_dw (l : List UInt8) (h : l.dropWhile (· == 0) = []) : l = List.replicate l.length 0 := by
  induction l with
  | nil => rfl
  | cons c l ih =>
    rw [List.dropWhile_cons] at h
    split at h
    · rename_i hc
      rw [List.length_cons, List.replicate_succ, ← ih h, show c = 0 by simpa using hc]
    · cases h
theorem dw_rep (n : Nat) : (List.replicate n (0 : UInt8)).dropWhile (· == 0) = [] := by
  induction n with
  | zero => rfl
  | succ n ih => rw [List.replicate_succ, List.dropWhile_cons, if_pos (by decide), ih]
theorem dw_last {l : List UInt8} {c : UInt8} (h : l.dropWhile (· == 0) ≠ []) (hl : (l.dropWhile (· == 0)).head? = some c) : c ≠ 0 := by
  induction l with
  | nil => exact absurd rfl h
  | cons x l ih =>
    rw [List.dropWhile_cons] at h hl
    split at h
    · rename_i hc
      rw [if_pos hc] at hl
      exact ih h hl
    · rename_i hc
      rw [if_neg hc] at hl
      cases hl
      simpa using hc
theorem trim_nil (m : List UInt8) : Lib.trimB m 0 = [] ↔ m = List.replicate m.length 0 := by
  unfold Lib.trimB Lib.trimLeftB Lib.trimRightB
  constructor
  · intro h
    by_cases hd : m.reverse.dropWhile (· == 0) = []
    · have := trim_dw _ hd
      rw [List.length_reverse] at this
      rw [← List.reverse_reverse m, this]
      simp
    · exfalso
      have h1 := trim_dw _ h
      obtain ⟨c, l, hcl⟩ : ∃ c l, m.reverse.dropWhile (· == 0) = c :: l := by
        cases hx : m.reverse.dropWhile (· == 0) with
        | nil => exact absurd hx hd
        | cons c l => exact ⟨c, l, rfl⟩
      have h2 := dw_last (c := c) hd (by rw [hcl]; rfl)
      have h3 : c ∈ (m.reverse.dropWhile (· == 0)).reverse := by rw [hcl]; simp
      rw [h1] at h3
      exact h2 (List.eq_of_mem_replicate h3)
  · intro h
    rw [h, List.reverse_replicate, dw_rep]
    rfl
theorem join_spec (b : Nat) (xs : List (List UInt8)) (fr : Nat × Nat) (hN : xs.length ≤ 1000) (hl : xs.flatten.length ≤ 1048576) :
    Sat Tryd.prog 38 [.slice (some ⟨b, 0, none⟩) xs.length xs.length] [pt b (.cells (xs.map str).toArray 9 fr)] (fun u L' => u = str xs.flatten ∧ L' = [pt b (.cells (xs.map str).toArray 9 fr)]) := by
  refine Sat.enter Tryd.func38 rfl Tryd.ntmps38 rfl (fun c R => ?_)
  try simp only [List.cons_append, List.nil_append]
  refine T.seq ?_
  refine T.reg ?_
  refine TO.p (DP.as (by conv => lhs; whnf)) ?_
  refine TO.nil ?_
  refine TQ.nn ?_
  refine T.seq ?_
  refine T.reg ?_
  refine TO.p (DP.mv (by conv => lhs; whnf)) ?_
  refine TO.n (N.callF (joins_spec b xs fr hN hl) Tryd.call56 ⟨rfl, rfl, trivial⟩ (by (repeat first | exact Pick.nil _ | (apply Pick.cons; focus ((repeat first | exact Del.head _ _ | apply Del.tail); done))))) ?_
  rintro u4 _ ⟨_, ⟨rfl, rfl⟩, rfl⟩
  try simp only [List.cons_append, List.nil_append]
  refine TO.p (DP.as (by conv => lhs; whnf)) ?_
  refine TO.nil ?_
  refine TQ.nn ?_
  refine T.ret ?_
  refine TQ.ret (vs := [str xs.flatten]) (L' := [pt b (.cells (xs.map str).toArray 9 fr)]) rfl ⟨rfl, rfl⟩ ⟨rfl, rfl⟩ (by (refine Ent.imp ?_; repeat first | exact Imp.refl _ | exact Imp.nil _ | (apply Imp.pull; focus ((repeat first | exact Del.head _ _ | apply Del.tail); done)) | (apply Imp.row; focus ((repeat first | exact Del.head _ _ | apply Del.tail); done)) | apply Imp.drop))

theorem first_spec  :
    Sat Tryd.prog 42 [] [] (fun u L' => u = .agg (hdE.map byteV).toArray ∧ L' = []) := by
  refine Sat.enter Tryd.func42 rfl Tryd.ntmps42 rfl (fun c R => ?_)
  try simp only [List.cons_append, List.nil_append]
  refine T.seq ?_
  refine T.reg ?_
  refine TO.n (N.alA zr74) ?_
  rintro _ _ ⟨b0, rfl, rfl⟩
  refine TO.nil ?_
  refine TQ.nn ?_
  refine T.seq ?_
  refine T.reg ?_
  refine TO.p (DP.baL (vs := [(0, _), (1, _), (2, _), (3, _), (4, _), (5, _)]) (us := hdE.map byteV) ⟨rfl, rfl, rfl, rfl, rfl, rfl, rfl, rfl, rfl, rfl, rfl, rfl, trivial⟩ Tryd.underlying74 sz5 zr74 rfl) ?_
  refine TO.n0 (N.stA (vs := hdE.map byteV) rfl rfl sz74 (by (repeat first | exact Put.head _ _ _ | apply Put.tail)) (by simp [hdE]) (by simp [hdE, byteV, Value.oneCell']) (by rfl)) ?_
  rintro _ _ ⟨rfl, rfl⟩
  rw [show setAll _ 0 (hdE.map byteV) = hdE.map byteV from rfl]
  refine TO.nil ?_
  refine TQ.nn ?_
  refine T.ret ?_
  refine TQ.ret (vs := [.agg (hdE.map byteV).toArray]) (L' := []) rfl ⟨RV.atA rfl ag74 sz74 (by (repeat first | exact LMem.head _ _ | apply LMem.tail)) rfl, rfl⟩ ⟨rfl, rfl⟩ (by (refine Ent.imp ?_; repeat first | exact Imp.refl _ | exact Imp.nil _ | (apply Imp.pull; focus ((repeat first | exact Del.head _ _ | apply Del.tail); done)) | (apply Imp.row; focus ((repeat first | exact Del.head _ _ | apply Del.tail); done)) | apply Imp.drop))

theorem may_spec (a : Ar) :
    Sat Tryd.prog 33 [.agg (arV a).toArray] [] (fun u L' => u = .bool (mayE a) ∧ L' = []) := by
  refine Sat.enter Tryd.func33 rfl Tryd.ntmps33 rfl (fun c R => ?_)
  try simp only [List.cons_append, List.nil_append]
  refine T.seq ?_
  refine T.reg ?_
  refine TO.n (N.bxA (cs := arV a) rfl) ?_
  rintro _ _ ⟨b1, rfl, rfl⟩
  refine TO.p (DP.as (by conv => lhs; whnf)) ?_
  refine TO.nil ?_
  refine TQ.nn ?_
  refine T.seq ?_
  refine T.reg ?_
  refine TO.p (DP.fa 0 rfl Tryd.underlying34 rfl rfl sz22) ?_
  refine TO.d (D.ldR (v := .int .u16 a.op) rfl pl22 (by (repeat first | exact LMem.head _ _ | apply LMem.tail)) rfl) ?_
  refine TO.p ((by first | exact DP.eql (b := 1) rfl rfl | exact DP.eqlI rfl rfl)) ?_
  refine TO.pB (DP.mv (by conv => lhs; whnf)) (fun hg6 => ?_) (fun hg6 => ?_)
  · refine TO.off rfl rfl ?_
    refine TO.off rfl rfl ?_
    refine TO.off rfl rfl ?_
    refine TO.p (DP.pkT rfl (by conv => lhs; whnf)) ?_
    refine TO.p (DP.mv (by conv => lhs; whnf)) ?_
    refine TO.onP rfl (DP.fa 1 rfl Tryd.underlying34 rfl rfl sz9) ?_
    refine TO.onD rfl (D.ldR (v := str a.f) rfl pl9 (by (repeat first | exact LMem.head _ _ | apply LMem.tail)) rfl) ?_
    refine TO.onP rfl (DP.lenT rfl Tryd.underlying9) ?_
    refine TO.onP rfl ((by first | exact DP.eql (b := 6) rfl rfl | exact DP.eqlI rfl rfl)) ?_
    refine TO.p (DP.pkT rfl (by conv => lhs; whnf)) ?_
    refine TO.pB (DP.mv (by conv => lhs; whnf)) (fun hg17 => ?_) (fun hg17 => ?_)
    · refine TO.onP rfl (DP.fa 3 rfl Tryd.underlying34 rfl rfl sz9) ?_
      refine TO.onD rfl (D.ldR (v := str a.t) rfl pl9 (by (repeat first | exact LMem.head _ _ | apply LMem.tail)) rfl) ?_
      refine TO.onP rfl (DP.lenT rfl Tryd.underlying9) ?_
      refine TO.onP rfl ((by first | exact DP.eql (b := 6) rfl rfl | exact DP.eqlI rfl rfl)) ?_
      refine TO.p (DP.pkT rfl (by conv => lhs; whnf)) ?_
      refine TO.p (DP.as (by conv => lhs; whnf)) ?_
      refine TO.nil ?_
      refine TQ.nn ?_
      refine T.ret ?_
      refine TQ.ret (vs := [.bool (mayE a)]) (L' := []) rfl ⟨show Value.bool _ = Value.bool _ by simp [mayE, *], rfl⟩ ⟨rfl, rfl⟩ (by (refine Ent.imp ?_; repeat first | exact Imp.refl _ | exact Imp.nil _ | (apply Imp.pull; focus ((repeat first | exact Del.head _ _ | apply Del.tail); done)) | (apply Imp.row; focus ((repeat first | exact Del.head _ _ | apply Del.tail); done)) | apply Imp.drop))
    · refine TO.off rfl rfl ?_
      refine TO.off rfl rfl ?_
      refine TO.off rfl rfl ?_
      refine TO.off rfl rfl ?_
      refine TO.p (DP.pkF rfl (by conv => lhs; whnf)) ?_
      refine TO.p (DP.as (by conv => lhs; whnf)) ?_
      refine TO.nil ?_
      refine TQ.nn ?_
      refine T.ret ?_
      refine TQ.ret (vs := [.bool (mayE a)]) (L' := []) rfl ⟨show Value.bool _ = Value.bool _ by simp [mayE, *], rfl⟩ ⟨rfl, rfl⟩ (by (refine Ent.imp ?_; repeat first | exact Imp.refl _ | exact Imp.nil _ | (apply Imp.pull; focus ((repeat first | exact Del.head _ _ | apply Del.tail); done)) | (apply Imp.row; focus ((repeat first | exact Del.head _ _ | apply Del.tail); done)) | apply Imp.drop))
  · refine TO.onP rfl (DP.fa 0 rfl Tryd.underlying34 rfl rfl sz22) ?_
    refine TO.onD rfl (D.ldR (v := .int .u16 a.op) rfl pl22 (by (repeat first | exact LMem.head _ _ | apply LMem.tail)) rfl) ?_
    refine TO.onP rfl ((by first | exact DP.eql (b := 2) rfl rfl | exact DP.eqlI rfl rfl)) ?_
    refine TO.p (DP.pkF rfl (by conv => lhs; whnf)) ?_
    refine TO.pB (DP.mv (by conv => lhs; whnf)) (fun hg11 => ?_) (fun hg11 => ?_)
    · refine TO.onP rfl (DP.fa 1 rfl Tryd.underlying34 rfl rfl sz9) ?_
      refine TO.onD rfl (D.ldR (v := str a.f) rfl pl9 (by (repeat first | exact LMem.head _ _ | apply LMem.tail)) rfl) ?_
      refine TO.onP rfl (DP.lenT rfl Tryd.underlying9) ?_
      refine TO.onP rfl ((by first | exact DP.eql (b := 6) rfl rfl | exact DP.eqlI rfl rfl)) ?_
      refine TO.p (DP.pkT rfl (by conv => lhs; whnf)) ?_
      refine TO.pB (DP.mv (by conv => lhs; whnf)) (fun hg17 => ?_) (fun hg17 => ?_)
      · refine TO.onP rfl (DP.fa 3 rfl Tryd.underlying34 rfl rfl sz9) ?_
        refine TO.onD rfl (D.ldR (v := str a.t) rfl pl9 (by (repeat first | exact LMem.head _ _ | apply LMem.tail)) rfl) ?_
        refine TO.onP rfl (DP.lenT rfl Tryd.underlying9) ?_
        refine TO.onP rfl ((by first | exact DP.eql (b := 6) rfl rfl | exact DP.eqlI rfl rfl)) ?_
        refine TO.p (DP.pkT rfl (by conv => lhs; whnf)) ?_
        refine TO.p (DP.as (by conv => lhs; whnf)) ?_
        refine TO.nil ?_
        refine TQ.nn ?_
        refine T.ret ?_
        refine TQ.ret (vs := [.bool (mayE a)]) (L' := []) rfl ⟨show Value.bool _ = Value.bool _ by simp [mayE, *], rfl⟩ ⟨rfl, rfl⟩ (by (refine Ent.imp ?_; repeat first | exact Imp.refl _ | exact Imp.nil _ | (apply Imp.pull; focus ((repeat first | exact Del.head _ _ | apply Del.tail); done)) | (apply Imp.row; focus ((repeat first | exact Del.head _ _ | apply Del.tail); done)) | apply Imp.drop))
      · refine TO.off rfl rfl ?_
        refine TO.off rfl rfl ?_
        refine TO.off rfl rfl ?_
        refine TO.off rfl rfl ?_
        refine TO.p (DP.pkF rfl (by conv => lhs; whnf)) ?_
        refine TO.p (DP.as (by conv => lhs; whnf)) ?_
        refine TO.nil ?_
        refine TQ.nn ?_
        refine T.ret ?_
        refine TQ.ret (vs := [.bool (mayE a)]) (L' := []) rfl ⟨show Value.bool _ = Value.bool _ by simp [mayE, *], rfl⟩ ⟨rfl, rfl⟩ (by (refine Ent.imp ?_; repeat first | exact Imp.refl _ | exact Imp.nil _ | (apply Imp.pull; focus ((repeat first | exact Del.head _ _ | apply Del.tail); done)) | (apply Imp.row; focus ((repeat first | exact Del.head _ _ | apply Del.tail); done)) | apply Imp.drop))
    · refine TO.off rfl rfl ?_
      refine TO.off rfl rfl ?_
      refine TO.off rfl rfl ?_
      refine TO.off rfl rfl ?_
      refine TO.p (DP.pkF rfl (by conv => lhs; whnf)) ?_
      refine TO.p (DP.mv (by conv => lhs; whnf)) ?_
      refine TO.off rfl rfl ?_
      refine TO.off rfl rfl ?_
      refine TO.off rfl rfl ?_
      refine TO.off rfl rfl ?_
      refine TO.p (DP.pkF rfl (by conv => lhs; whnf)) ?_
      refine TO.p (DP.as (by conv => lhs; whnf)) ?_
      refine TO.nil ?_
      refine TQ.nn ?_
      refine T.ret ?_
      refine TQ.ret (vs := [.bool (mayE a)]) (L' := []) rfl ⟨show Value.bool _ = Value.bool _ by simp [mayE, *], rfl⟩ ⟨rfl, rfl⟩ (by (refine Ent.imp ?_; repeat first | exact Imp.refl _ | exact Imp.nil _ | (apply Imp.pull; focus ((repeat first | exact Del.head _ _ | apply Del.tail); done)) | (apply Imp.row; focus ((repeat first | exact Del.head _ _ | apply Del.tail); done)) | apply Imp.drop))

theorem rmay_spec (a : Ar) :
    Sat Tryd.prog 43 [.agg (arV a).toArray] [] (fun u L' => u = .bool (mayE a) ∧ L' = []) := by
  refine Sat.enter Tryd.func43 rfl Tryd.ntmps43 rfl (fun c R => ?_)
  try simp only [List.cons_append, List.nil_append]
  refine T.seq ?_
  refine T.reg ?_
  refine TO.n (N.bxA (cs := arV a) rfl) ?_
  rintro _ _ ⟨b1, rfl, rfl⟩
  refine TO.p (DP.as (by conv => lhs; whnf)) ?_
  refine TO.nil ?_
  refine TQ.nn ?_
  refine T.seq ?_
  refine T.reg ?_
  refine TO.p (DP.fa 0 rfl Tryd.underlying34 rfl rfl sz22) ?_
  refine TO.d (D.ldR (v := .int .u16 a.op) rfl pl22 (by (repeat first | exact LMem.head _ _ | apply LMem.tail)) rfl) ?_
  refine TO.p ((by first | exact DP.eql (b := 1) rfl rfl | exact DP.eqlI rfl rfl)) ?_
  refine TO.pB (DP.mv (by conv => lhs; whnf)) (fun hg6 => ?_) (fun hg6 => ?_)
  · refine TO.off rfl rfl ?_
    refine TO.off rfl rfl ?_
    refine TO.off rfl rfl ?_
    refine TO.p (DP.pkT rfl (by conv => lhs; whnf)) ?_
    refine TO.p (DP.mv (by conv => lhs; whnf)) ?_
    refine TO.onP rfl (DP.fa 1 rfl Tryd.underlying34 rfl rfl sz9) ?_
    refine TO.onD rfl (D.ldR (v := str a.f) rfl pl9 (by (repeat first | exact LMem.head _ _ | apply LMem.tail)) rfl) ?_
    refine TO.onP rfl (DP.lenT rfl Tryd.underlying9) ?_
    refine TO.onP rfl ((by first | exact DP.eql (b := 6) rfl rfl | exact DP.eqlI rfl rfl)) ?_
    refine TO.p (DP.pkT rfl (by conv => lhs; whnf)) ?_
    refine TO.pB (DP.mv (by conv => lhs; whnf)) (fun hg17 => ?_) (fun hg17 => ?_)
    · refine TO.onP rfl (DP.fa 3 rfl Tryd.underlying34 rfl rfl sz9) ?_
      refine TO.onD rfl (D.ldR (v := str a.t) rfl pl9 (by (repeat first | exact LMem.head _ _ | apply LMem.tail)) rfl) ?_
      refine TO.onP rfl (DP.lenT rfl Tryd.underlying9) ?_
      refine TO.onP rfl ((by first | exact DP.eql (b := 6) rfl rfl | exact DP.eqlI rfl rfl)) ?_
      refine TO.p (DP.pkT rfl (by conv => lhs; whnf)) ?_
      refine TO.p (DP.as (by conv => lhs; whnf)) ?_
      refine TO.nil ?_
      refine TQ.nn ?_
      refine T.ret ?_
      refine TQ.ret (vs := [.bool (mayE a)]) (L' := []) rfl ⟨show Value.bool _ = Value.bool _ by simp [mayE, *], rfl⟩ ⟨rfl, rfl⟩ (by (refine Ent.imp ?_; repeat first | exact Imp.refl _ | exact Imp.nil _ | (apply Imp.pull; focus ((repeat first | exact Del.head _ _ | apply Del.tail); done)) | (apply Imp.row; focus ((repeat first | exact Del.head _ _ | apply Del.tail); done)) | apply Imp.drop))
    · refine TO.off rfl rfl ?_
      refine TO.off rfl rfl ?_
      refine TO.off rfl rfl ?_
      refine TO.off rfl rfl ?_
      refine TO.p (DP.pkF rfl (by conv => lhs; whnf)) ?_
      refine TO.p (DP.as (by conv => lhs; whnf)) ?_
      refine TO.nil ?_
      refine TQ.nn ?_
      refine T.ret ?_
      refine TQ.ret (vs := [.bool (mayE a)]) (L' := []) rfl ⟨show Value.bool _ = Value.bool _ by simp [mayE, *], rfl⟩ ⟨rfl, rfl⟩ (by (refine Ent.imp ?_; repeat first | exact Imp.refl _ | exact Imp.nil _ | (apply Imp.pull; focus ((repeat first | exact Del.head _ _ | apply Del.tail); done)) | (apply Imp.row; focus ((repeat first | exact Del.head _ _ | apply Del.tail); done)) | apply Imp.drop))
  · refine TO.onP rfl (DP.fa 0 rfl Tryd.underlying34 rfl rfl sz22) ?_
    refine TO.onD rfl (D.ldR (v := .int .u16 a.op) rfl pl22 (by (repeat first | exact LMem.head _ _ | apply LMem.tail)) rfl) ?_
    refine TO.onP rfl ((by first | exact DP.eql (b := 2) rfl rfl | exact DP.eqlI rfl rfl)) ?_
    refine TO.p (DP.pkF rfl (by conv => lhs; whnf)) ?_
    refine TO.pB (DP.mv (by conv => lhs; whnf)) (fun hg11 => ?_) (fun hg11 => ?_)
    · refine TO.onP rfl (DP.fa 1 rfl Tryd.underlying34 rfl rfl sz9) ?_
      refine TO.onD rfl (D.ldR (v := str a.f) rfl pl9 (by (repeat first | exact LMem.head _ _ | apply LMem.tail)) rfl) ?_
      refine TO.onP rfl (DP.lenT rfl Tryd.underlying9) ?_
      refine TO.onP rfl ((by first | exact DP.eql (b := 6) rfl rfl | exact DP.eqlI rfl rfl)) ?_
      refine TO.p (DP.pkT rfl (by conv => lhs; whnf)) ?_
      refine TO.pB (DP.mv (by conv => lhs; whnf)) (fun hg17 => ?_) (fun hg17 => ?_)
      · refine TO.onP rfl (DP.fa 3 rfl Tryd.underlying34 rfl rfl sz9) ?_
        refine TO.onD rfl (D.ldR (v := str a.t) rfl pl9 (by (repeat first | exact LMem.head _ _ | apply LMem.tail)) rfl) ?_
        refine TO.onP rfl (DP.lenT rfl Tryd.underlying9) ?_
        refine TO.onP rfl ((by first | exact DP.eql (b := 6) rfl rfl | exact DP.eqlI rfl rfl)) ?_
        refine TO.p (DP.pkT rfl (by conv => lhs; whnf)) ?_
        refine TO.p (DP.as (by conv => lhs; whnf)) ?_
        refine TO.nil ?_
        refine TQ.nn ?_
        refine T.ret ?_
        refine TQ.ret (vs := [.bool (mayE a)]) (L' := []) rfl ⟨show Value.bool _ = Value.bool _ by simp [mayE, *], rfl⟩ ⟨rfl, rfl⟩ (by (refine Ent.imp ?_; repeat first | exact Imp.refl _ | exact Imp.nil _ | (apply Imp.pull; focus ((repeat first | exact Del.head _ _ | apply Del.tail); done)) | (apply Imp.row; focus ((repeat first | exact Del.head _ _ | apply Del.tail); done)) | apply Imp.drop))
      · refine TO.off rfl rfl ?_
        refine TO.off rfl rfl ?_
        refine TO.off rfl rfl ?_
        refine TO.off rfl rfl ?_
        refine TO.p (DP.pkF rfl (by conv => lhs; whnf)) ?_
        refine TO.p (DP.as (by conv => lhs; whnf)) ?_
        refine TO.nil ?_
        refine TQ.nn ?_
        refine T.ret ?_
        refine TQ.ret (vs := [.bool (mayE a)]) (L' := []) rfl ⟨show Value.bool _ = Value.bool _ by simp [mayE, *], rfl⟩ ⟨rfl, rfl⟩ (by (refine Ent.imp ?_; repeat first | exact Imp.refl _ | exact Imp.nil _ | (apply Imp.pull; focus ((repeat first | exact Del.head _ _ | apply Del.tail); done)) | (apply Imp.row; focus ((repeat first | exact Del.head _ _ | apply Del.tail); done)) | apply Imp.drop))
    · refine TO.off rfl rfl ?_
      refine TO.off rfl rfl ?_
      refine TO.off rfl rfl ?_
      refine TO.off rfl rfl ?_
      refine TO.p (DP.pkF rfl (by conv => lhs; whnf)) ?_
      refine TO.p (DP.mv (by conv => lhs; whnf)) ?_
      refine TO.off rfl rfl ?_
      refine TO.off rfl rfl ?_
      refine TO.off rfl rfl ?_
      refine TO.off rfl rfl ?_
      refine TO.p (DP.pkF rfl (by conv => lhs; whnf)) ?_
      refine TO.p (DP.as (by conv => lhs; whnf)) ?_
      refine TO.nil ?_
      refine TQ.nn ?_
      refine T.ret ?_
      refine TQ.ret (vs := [.bool (mayE a)]) (L' := []) rfl ⟨show Value.bool _ = Value.bool _ by simp [mayE, *], rfl⟩ ⟨rfl, rfl⟩ (by (refine Ent.imp ?_; repeat first | exact Imp.refl _ | exact Imp.nil _ | (apply Imp.pull; focus ((repeat first | exact Del.head _ _ | apply Del.tail); done)) | (apply Imp.row; focus ((repeat first | exact Del.head _ _ | apply Del.tail); done)) | apply Imp.drop))
end Go.Proofs.YtbandaebilkkkaaDoor
