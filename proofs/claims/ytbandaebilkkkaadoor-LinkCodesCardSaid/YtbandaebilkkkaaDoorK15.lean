/- Lemmas for the proofs of this seat: no statement of the seat is claimed here. -/
import Derived.Test.YtbandaebilkkkaaDoorK14
set_option linter.all false
namespace Go.Proofs.YtbandaebilkkkaaDoor
open Go Pw
set_option maxRecDepth 20000
set_option maxHeartbeats 4000000
theorem ag36 : aggT Tryd.prog 36 = true := by kernel_rfl
theorem sz36 : Tryd.prog.cellsOf 36 = 8 + 1 := by kernel_rfl
theorem zr36 : Tryd.prog.zeroOf 36 = some (.agg #[.int .i64 0, .int .u16 0, .string ⟨#[]⟩, .int .u32 0, .string ⟨#[]⟩, .int .u32 0, .int .u32 0, .string ⟨#[]⟩, .int .u64 0]) := by kernel_rfl

structure Stp where
  dd : Int
  a : Ar
  addr : Nat
  mac : List UInt8
  now : Nat
def stepV (t : Stp) : List Value := [.int .i64 t.dd, .int .u16 t.a.op, str t.a.f, .int .u32 t.a.fa, str t.a.t, .int .u32 t.a.ta, .int .u32 t.addr, str t.mac, .int .u64 t.now]
theorem stepV_len (t : Stp) : (stepV t).length = 9 := rfl
def BIG : Nat := 140737488351232
structure Stp.ok (z : Stp) : Prop where
  op : z.a.op < 65536
  f : z.a.f.length ≤ 140737488351232
  fa : z.a.fa < 4294967296
  t : z.a.t.length ≤ 140737488351232
  ta : z.a.ta < 4294967296
  addr : z.addr < 4294967296
  mac : z.mac.length ≤ 140737488351232
  now : z.now < 18446744073709551616
def lensE (l : List Stp) : Nat := (l.map fun t => t.a.f.length + t.a.t.length + t.mac.length).sum
theorem lens_take {l : List Stp} {i : Nat} {t : Stp} (h : l[i]? = some t) : lensE (l.take (i + 1)) = lensE (l.take i) + (t.a.f.length + t.a.t.length + t.mac.length) := by
  unfold lensE
  rw [List.take_add_one, h]
  simp
theorem lens_le {l : List Stp} (hok : ∀ t ∈ l, t.ok) : lensE l ≤ l.length * 422212465053696 := by
  induction l with
  | nil => simp [lensE]
  | cons x l ih =>
    have h1 := ih fun t ht => hok t (List.mem_cons_of_mem _ ht)
    have h2 := hok x (List.mem_cons_self ..)
    have := h2.f; have := h2.t; have := h2.mac
    unfold lensE at h1 ⊢
    simp only [List.map_cons, List.sum_cons, List.length_cons]
    omega
theorem lens_mem {l : List Stp} {t : Stp} (h : t ∈ l) : t.a.f.length + t.a.t.length + t.mac.length ≤ lensE l := by
  induction l with
  | nil => cases h
  | cons x l ih =>
    unfold lensE at ih ⊢
    simp only [List.map_cons, List.sum_cons]
    rcases List.mem_cons.1 h with rfl | h
    · omega
    · have := ih h; omega
theorem or_add (a b : Nat) (ha : a < 72057594037927936) (hb : b < 256) : (a * 2 ^ 8 % 18446744073709551616 ||| b) = a * 256 + b := by
  rw [Nat.mod_eq_of_lt (by omega), Nat.mul_comm, ← Nat.two_pow_add_eq_or_of_lt (by omega : b < 2 ^ 8)]
theorem val2 (x y : UInt8) : valE [x, y] = x.toNat * 256 + y.toNat := by
  have hx := x.toNat_lt; have hy := y.toNat_lt
  unfold valE
  simp only [List.foldl_cons, List.foldl_nil]
  rw [or_add 0 _ (by omega) hx, or_add _ _ (by omega) hy]
  omega
theorem val4 (x y z u : UInt8) : valE [x, y, z, u] = ((x.toNat * 256 + y.toNat) * 256 + z.toNat) * 256 + u.toNat := by
  have hx := x.toNat_lt; have hy := y.toNat_lt; have hz := z.toNat_lt; have hu := u.toNat_lt
  unfold valE
  simp only [List.foldl_cons, List.foldl_nil]
  rw [or_add 0 _ (by omega) hx, or_add _ _ (by omega) hy, or_add _ _ (by omega) hz, or_add _ _ (by omega) hu]
  omega
theorem ofNat_to (x : Nat) : (UInt8.ofNat x).toNat = x % 256 := UInt8.toNat_ofNat'
theorem val_num2 {x : Nat} (h : x < 65536) : valE (numE x 2) = x := by
  rw [show numE x 2 = [UInt8.ofNat (x / 256), UInt8.ofNat x] from rfl, val2, ofNat_to, ofNat_to]; omega
theorem val_num4 {x : Nat} (h : x < 4294967296) : valE (numE x 4) = x := by
  rw [show numE x 4 = [UInt8.ofNat (x / 256 / 256 / 256), UInt8.ofNat (x / 256 / 256), UInt8.ofNat (x / 256), UInt8.ofNat x] from rfl, val4, ofNat_to, ofNat_to, ofNat_to, ofNat_to]; omega
theorem mid_eq {A B C : List UInt8} {i j : Nat} (hi : A.length = i) (hj : i + B.length = j) : ((A ++ (B ++ C)).take j).drop i = B := by
  subst hi; subst hj
  rw [← List.append_assoc, List.take_append_of_le_length (by simp), List.take_of_length_le (by simp), List.drop_left]
theorem pre_eq {B C : List UInt8} {j : Nat} (hj : B.length = j) : (B ++ C).take j = B := by
  subst hj; rw [List.take_left]
theorem encE_inv {f : Fr} (h : (encE f).2 = 0) : f.d.length = 6 ∧ f.s.length = 6 ∧ 1536 ≤ f.t ∧ f.x.length ≤ 1500 ∧ encE f = (f.d ++ f.s ++ numE f.t 2 ++ f.x ++ List.replicate (46 - f.x.length) 0, 0) := by
  by_cases h1 : f.d.length ≠ 6 ∨ f.s.length ≠ 6 ∨ f.t < 1536
  · rw [encE_len f h1] at h; cases h
  · by_cases h2 : 1500 < f.x.length
    · rw [encE_long f h1 h2] at h; cases h
    · exact ⟨by omega, by omega, by omega, by omega, encE_ok f h1 h2⟩
theorem dec_enc (f : Fr) (hd : f.d.length = 6) (hs : f.s.length = 6) (ht : 1536 ≤ f.t) (ht2 : f.t < 65536) (hx : f.x.length ≤ 1500) :
    decE (f.d ++ f.s ++ numE f.t 2 ++ f.x ++ List.replicate (46 - f.x.length) 0) = (⟨f.d, f.s, f.t, f.x ++ List.replicate (46 - f.x.length) 0⟩, 0) := by
  obtain ⟨Z, hZ⟩ : ∃ Z, Z = List.replicate (46 - f.x.length) (0 : UInt8) := ⟨_, rfl⟩
  have hzl : Z.length = 46 - f.x.length := by rw [hZ, List.length_replicate]
  rw [← hZ]
  have hn := numE_len 2 f.t
  obtain ⟨s, hse⟩ : ∃ s, s = f.d ++ f.s ++ numE f.t 2 ++ f.x ++ Z := ⟨_, rfl⟩
  rw [← hse]
  have hl : s.length = 14 + f.x.length + Z.length := by rw [hse]; simp only [List.length_append]; omega
  have hty : tyE s = f.t := by
    unfold tyE
    rw [show (s.take 14).drop 12 = numE f.t 2 from by
      rw [hse]; simpa [List.append_assoc] using mid_eq (A := f.d ++ f.s) (B := numE f.t 2) (C := f.x ++ Z) (i := 12) (j := 14) (by simp; omega) (by omega), val_num2 ht2]
    omega
  rw [decE_ok s (by omega) (by omega) (by omega)]
  unfold frOf
  rw [hty]
  rw [show s.take 6 = f.d from by rw [hse]; simpa [List.append_assoc] using pre_eq (B := f.d) (C := f.s ++ (numE f.t 2 ++ (f.x ++ Z))) hd,
    show (s.take 12).drop 6 = f.s from by rw [hse]; simpa [List.append_assoc] using mid_eq (A := f.d) (B := f.s) (C := numE f.t 2 ++ (f.x ++ Z)) (i := 6) (j := 12) hd (by omega),
    show s.drop 14 = f.x ++ Z from by rw [hse, show f.d ++ f.s ++ numE f.t 2 ++ f.x ++ Z = (f.d ++ f.s ++ numE f.t 2) ++ (f.x ++ Z) by simp, show 14 = (f.d ++ f.s ++ numE f.t 2).length by simp [hn, hd, hs], List.drop_left]]
theorem dec_enca (a : Ar) (ha : a.op < 65536) (hfa : a.fa < 4294967296) (hta : a.ta < 4294967296) (hm : mayE a = true) (more : List UInt8) :
    decA (hdE ++ numE a.op 2 ++ a.f ++ numE a.fa 4 ++ a.t ++ numE a.ta 4 ++ more) = (a, 0) := by
  obtain ⟨h1, h2, _⟩ := may_ok hm
  have n1 := numE_len 2 a.op; have n2 := numE_len 4 a.fa; have n3 := numE_len 4 a.ta
  have hh : hdE.length = 6 := rfl
  obtain ⟨s, hse⟩ : ∃ s, s = hdE ++ numE a.op 2 ++ a.f ++ numE a.fa 4 ++ a.t ++ numE a.ta 4 ++ more := ⟨_, rfl⟩
  rw [← hse]
  have hl : s.length = 28 + more.length := by rw [hse]; simp only [List.length_append]; omega
  have e1 : s.take 6 = hdE := by rw [hse]; simpa [List.append_assoc] using pre_eq (B := hdE) (C := numE a.op 2 ++ (a.f ++ (numE a.fa 4 ++ (a.t ++ (numE a.ta 4 ++ more))))) hh
  have e2 : (s.take 8).drop 6 = numE a.op 2 := by rw [hse]; simpa [List.append_assoc] using mid_eq (A := hdE) (B := numE a.op 2) (C := a.f ++ (numE a.fa 4 ++ (a.t ++ (numE a.ta 4 ++ more)))) (i := 6) (j := 8) hh (by omega)
  have e3 : (s.take 14).drop 8 = a.f := by rw [hse]; simpa [List.append_assoc] using mid_eq (A := hdE ++ numE a.op 2) (B := a.f) (C := numE a.fa 4 ++ (a.t ++ (numE a.ta 4 ++ more))) (i := 8) (j := 14) (by simp; omega) (by omega)
  have e4 : (s.take 18).drop 14 = numE a.fa 4 := by rw [hse]; simpa [List.append_assoc] using mid_eq (A := hdE ++ (numE a.op 2 ++ a.f)) (B := numE a.fa 4) (C := a.t ++ (numE a.ta 4 ++ more)) (i := 14) (j := 18) (by simp; omega) (by omega)
  have e5 : (s.take 24).drop 18 = a.t := by rw [hse]; simpa [List.append_assoc] using mid_eq (A := hdE ++ (numE a.op 2 ++ (a.f ++ numE a.fa 4))) (B := a.t) (C := numE a.ta 4 ++ more) (i := 18) (j := 24) (by simp; omega) (by omega)
  have e6 : (s.take 28).drop 24 = numE a.ta 4 := by rw [hse]; simpa [List.append_assoc] using mid_eq (A := hdE ++ (numE a.op 2 ++ (a.f ++ (numE a.fa 4 ++ a.t)))) (B := numE a.ta 4) (C := more) (i := 24) (j := 28) (by simp; omega) (by omega)
  have ea : arOf s = a := by
    unfold arOf
    rw [e2, e3, e4, e5, e6, val_num2 ha, val_num4 hfa, val_num4 hta, Nat.mod_eq_of_lt ha, Nat.mod_eq_of_lt hfa, Nat.mod_eq_of_lt hta]
  rw [decA_ok s (by omega) e1 (by rw [ea]; exact hm), ea]
theorem heavy_spec (h : Array Obj) (v : Value) (l : List Stp) (hI : Inp h 9 l.length v (l.flatMap stepV)) (hok : ∀ t ∈ l, t.ok) :
    Sat Tryd.prog 8 [v] [old h] (fun u L' => ∃ b : Bool, u = .bool b ∧ (b = false → l.length ≤ 200 ∧ lensE l ≤ 8192) ∧ L' = [old h]) := by
  refine Sat.enter Tryd.func8 rfl Tryd.ntmps8 rfl (fun c R => ?_)
  try simp only [List.cons_append, List.nil_append]
  refine T.seq ?_
  refine T.reg ?_
  refine TO.p (DP.as (by conv => lhs; whnf)) ?_
  refine TO.nil ?_
  refine TQ.nn ?_
  refine T.seq ?_
  refine T.reg ?_
  refine TO.p (DP.as (by conv => lhs; whnf)) ?_
  refine TO.nil ?_
  refine TQ.nn ?_
  refine T.seq ?_
  refine T.seq ?_
  refine T.reg ?_
  refine TO.p (DP.as (by conv => lhs; whnf)) ?_
  refine TO.nil ?_
  refine TQ.nn ?_
  refine T.block ?_
  refine T.loop (S := Nat) 0 (fun i => [(0, v), (3, .int .i64 (lensE (l.take i) : Nat)), (4, .int .i64 (i : Nat))]) (fun i => old h :: R) (fun i => i ≤ l.length ∧ i ≤ 300) (fun i => l.length - i) ?_ ?_ ?_ ?_
  · (repeat first | exact trivial | refine ⟨rfl, ?_⟩)
  · exact ⟨Nat.zero_le _, Nat.zero_le _⟩
  · exact Ent.refl _ _
  rintro i g ⟨hi, hi3⟩
  refine T.seq ?_
  refine T.seq ?_
  refine T.reg ?_
  refine TO.p (DP.mv (by conv => lhs; whnf)) ?_
  refine TO.p (DP.mv (by conv => lhs; whnf)) ?_
  refine TO.p (DP.lenI hI rfl Tryd.underlying23) ?_
  refine TO.p ((by first | exact DP.lss rfl rfl | exact DP.lssI rfl rfl)) ?_
  refine TO.pB (DP.mv (by conv => lhs; whnf)) (fun hg9 => ?_) (fun hg9 => ?_)
  · refine TO.onP rfl (DP.mv (by conv => lhs; whnf)) ?_
    refine TO.onP rfl (DP.lss (b := 300) rfl rfl) ?_
    refine TO.p (DP.pkT rfl (by conv => lhs; whnf)) ?_
    refine TO.nil ?_
    refine TQ.nn ?_
    refine T.condD rfl (fun hc0 => ?_) (fun hc0 => ?_)
    · obtain ⟨t, ht⟩ := get_some (l := l) (i := i) (by omega)
      have htk := hok t (mem_of_get ht)
      obtain ⟨_, htf, _, htt, _, _, htm, _⟩ := htk
      have hil := hI.2.1
      have hlb := lens_le (l := l.take i) (fun t ht => hok t (List.mem_of_mem_take ht))
      have hlk : (l.take i).length = i := by rw [List.length_take]; omega
      rw [hlk] at hlb
      refine T.skip ?_
      refine TQ.nn ?_
      refine T.seq ?_
      refine T.block ?_
      refine T.drawL [] mixed (by repeat first | exact Calm.rt | apply Calm.t | apply Calm.b | apply Calm.l | apply Calm.ct) ?_
      refine TR.p 0 rfl (by kernel_rfl) (DP.mv (by conv => lhs; whnf)) ?_
      refine TR.p 1 rfl (by kernel_rfl) (DP.mv (by conv => lhs; whnf)) ?_
      refine TR.p 2 rfl (by kernel_rfl) (DP.mv (by conv => lhs; whnf)) ?_
      refine TR.p 3 rfl (by kernel_rfl) (DP.iasH (n := l.length) (sz := 8) hI rfl rfl Tryd.underlying23 sz36 (by omega)) ?_
      refine TR.p 4 rfl (by kernel_rfl) (DP.faH 1 hI (by omega) (by conv => lhs; whnf) Tryd.underlying36 rfl rfl sz34) ?_
      refine TR.p 5 rfl (by kernel_rfl) (DP.faHF 1 hI (by omega) (by conv => lhs; whnf) Tryd.underlying34 rfl rfl sz9) ?_
      refine TR.d 6 rfl (by kernel_rfl) (by kernel_rfl) (by (refine Ent.imp ?_; repeat first | exact Imp.refl _ | exact Imp.nil _ | (apply Imp.pull; focus ((repeat first | exact Del.head _ _ | apply Del.tail); done)) | (apply Imp.row; focus ((repeat first | exact Del.head _ _ | apply Del.tail); done)) | apply Imp.drop)) (D.ldHF (u := str t.a.f) hI (by omega) (by conv => lhs; whnf) pl9 (by (repeat first | exact LMem.head _ _ | apply LMem.tail)) (flat_elem stepV_len ht 2 _ rfl)) ?_
      refine TR.p 7 rfl (by kernel_rfl) (DP.lenT rfl Tryd.underlying9) ?_
      refine TR.p 8 rfl (by kernel_rfl) ((by first | exact DP.add rfl rfl (l := 9223372036854775808) rfl (by omega) | exact DP.addX rfl rfl)) ?_
      refine TR.p 9 rfl (by kernel_rfl) (DP.mv (by conv => lhs; whnf)) ?_
      refine TR.p 10 rfl (by kernel_rfl) (DP.mv (by conv => lhs; whnf)) ?_
      refine TR.p 11 rfl (by kernel_rfl) (DP.iasH (n := l.length) (sz := 8) hI rfl rfl Tryd.underlying23 sz36 (by omega)) ?_
      refine TR.p 12 rfl (by kernel_rfl) (DP.faH 1 hI (by omega) (by conv => lhs; whnf) Tryd.underlying36 rfl rfl sz34) ?_
      refine TR.p 13 rfl (by kernel_rfl) (DP.faHF 3 hI (by omega) (by conv => lhs; whnf) Tryd.underlying34 rfl rfl sz9) ?_
      refine TR.d 14 rfl (by kernel_rfl) (by kernel_rfl) (by (refine Ent.imp ?_; repeat first | exact Imp.refl _ | exact Imp.nil _ | (apply Imp.pull; focus ((repeat first | exact Del.head _ _ | apply Del.tail); done)) | (apply Imp.row; focus ((repeat first | exact Del.head _ _ | apply Del.tail); done)) | apply Imp.drop)) (D.ldHF (u := str t.a.t) hI (by omega) (by conv => lhs; whnf) pl9 (by (repeat first | exact LMem.head _ _ | apply LMem.tail)) (flat_elem stepV_len ht 4 _ rfl)) ?_
      refine TR.p 15 rfl (by kernel_rfl) (DP.lenT rfl Tryd.underlying9) ?_
      refine TR.p 16 rfl (by kernel_rfl) ((by first | exact DP.add rfl rfl (l := 9223372036854775808) rfl (by omega) | exact DP.addX rfl rfl)) ?_
      refine TR.p 17 rfl (by kernel_rfl) (DP.mv (by conv => lhs; whnf)) ?_
      refine TR.p 18 rfl (by kernel_rfl) (DP.mv (by conv => lhs; whnf)) ?_
      refine TR.p 19 rfl (by kernel_rfl) (DP.iasH (n := l.length) (sz := 8) hI rfl rfl Tryd.underlying23 sz36 (by omega)) ?_
      refine TR.p 20 rfl (by kernel_rfl) (DP.faH 7 hI (by omega) (by conv => lhs; whnf) Tryd.underlying36 rfl rfl sz9) ?_
      refine TR.d 21 rfl (by kernel_rfl) (by kernel_rfl) (by (refine Ent.imp ?_; repeat first | exact Imp.refl _ | exact Imp.nil _ | (apply Imp.pull; focus ((repeat first | exact Del.head _ _ | apply Del.tail); done)) | (apply Imp.row; focus ((repeat first | exact Del.head _ _ | apply Del.tail); done)) | apply Imp.drop)) (D.ldHF (u := str t.mac) hI (by omega) (by conv => lhs; whnf) pl9 (by (repeat first | exact LMem.head _ _ | apply LMem.tail)) (flat_elem stepV_len ht 7 _ rfl)) ?_
      refine TR.p 22 rfl (by kernel_rfl) (DP.lenT rfl Tryd.underlying9) ?_
      refine TR.p 23 rfl (by kernel_rfl) ((by first | exact DP.add rfl rfl (l := 9223372036854775808) rfl (by omega) | exact DP.addX rfl rfl)) ?_
      refine TR.p 24 rfl (by kernel_rfl) (DP.as (by conv => lhs; whnf)) ?_
      refine TR.done (by kernel_rfl) ?_
      refine TQ.bn ?_
      refine TQ.nn ?_
      refine T.reg ?_
      refine TO.p (DP.mv (by conv => lhs; whnf)) ?_
      refine TO.p ((by first | exact DP.add (b := 1) rfl rfl (l := 9223372036854775808) rfl (by omega) | exact DP.addX rfl rfl)) ?_
      refine TO.p (DP.as (by conv => lhs; whnf)) ?_
      refine TO.nil ?_
      refine TQ.round (i + 1) rfl ?_ ?_ ?_ ?_
      · (refine ⟨rfl, by rw [lens_take ht]; simp only [← Nat.add_assoc]; rfl, rfl, trivial⟩)
      · omega
      · omega
      · exact Ent.refl _ _
    · refine T.exit ?_
      refine TQ.ne ?_
      refine TQ.le ?_
      refine TQ.be ?_
      refine TQ.nn ?_
      refine T.seq ?_
      have hend : l.length ≤ 200 → i = l.length := fun h5 => by omega
      refine T.reg ?_
      refine TO.p (DP.mv (by conv => lhs; whnf)) ?_
      refine TO.p (DP.lenI hI rfl Tryd.underlying23) ?_
      refine TO.p (DP.gtr (b := 200) rfl rfl) ?_
      refine TO.pB (DP.mv (by conv => lhs; whnf)) (fun hg42 => ?_) (fun hg42 => ?_)
      · refine TO.off rfl rfl ?_
        refine TO.off rfl rfl ?_
        refine TO.p (DP.pkT rfl (by conv => lhs; whnf)) ?_
        refine TO.p (DP.as (by conv => lhs; whnf)) ?_
        refine TO.nil ?_
        refine TQ.nn ?_
        refine T.ret ?_
        refine TQ.ret (vs := [.bool _]) (L' := [_]) rfl ⟨rfl, rfl⟩ ⟨_, rfl, (fun h => by cases h), rfl⟩ (by (refine Ent.imp ?_; repeat first | exact Imp.refl _ | exact Imp.nil _ | (apply Imp.pull; focus ((repeat first | exact Del.head _ _ | apply Del.tail); done)) | (apply Imp.row; focus ((repeat first | exact Del.head _ _ | apply Del.tail); done)) | apply Imp.drop))
      · refine TO.onP rfl (DP.mv (by conv => lhs; whnf)) ?_
        refine TO.onP rfl (DP.gtr (b := 8192) rfl rfl) ?_
        refine TO.p (DP.pkF rfl (by conv => lhs; whnf)) ?_
        refine TO.p (DP.as (by conv => lhs; whnf)) ?_
        refine TO.nil ?_
        refine TQ.nn ?_
        refine T.ret ?_
        refine TQ.ret (vs := [.bool _]) (L' := [_]) rfl ⟨rfl, rfl⟩ ⟨_, rfl, (fun h => by have h6 : ¬ 8192 < lensE (l.take i) := of_decide_eq_false h; have h7 := hend (by omega); rw [h7, List.take_length] at h6; omega), rfl⟩ (by (refine Ent.imp ?_; repeat first | exact Imp.refl _ | exact Imp.nil _ | (apply Imp.pull; focus ((repeat first | exact Del.head _ _ | apply Del.tail); done)) | (apply Imp.row; focus ((repeat first | exact Del.head _ _ | apply Del.tail); done)) | apply Imp.drop))
  · refine TO.off rfl rfl ?_
    refine TO.off rfl rfl ?_
    refine TO.p (DP.pkF rfl (by conv => lhs; whnf)) ?_
    refine TO.nil ?_
    refine TQ.nn ?_
    refine T.condF rfl ?_
    refine T.exit ?_
    refine TQ.ne ?_
    refine TQ.le ?_
    refine TQ.be ?_
    refine TQ.nn ?_
    refine T.seq ?_
    have hend : l.length ≤ 200 → i = l.length := fun h5 => by omega
    refine T.reg ?_
    refine TO.p (DP.mv (by conv => lhs; whnf)) ?_
    refine TO.p (DP.lenI hI rfl Tryd.underlying23) ?_
    refine TO.p (DP.gtr (b := 200) rfl rfl) ?_
    refine TO.pB (DP.mv (by conv => lhs; whnf)) (fun hg42 => ?_) (fun hg42 => ?_)
    · refine TO.off rfl rfl ?_
      refine TO.off rfl rfl ?_
      refine TO.p (DP.pkT rfl (by conv => lhs; whnf)) ?_
      refine TO.p (DP.as (by conv => lhs; whnf)) ?_
      refine TO.nil ?_
      refine TQ.nn ?_
      refine T.ret ?_
      refine TQ.ret (vs := [.bool _]) (L' := [_]) rfl ⟨rfl, rfl⟩ ⟨_, rfl, (fun h => by cases h), rfl⟩ (by (refine Ent.imp ?_; repeat first | exact Imp.refl _ | exact Imp.nil _ | (apply Imp.pull; focus ((repeat first | exact Del.head _ _ | apply Del.tail); done)) | (apply Imp.row; focus ((repeat first | exact Del.head _ _ | apply Del.tail); done)) | apply Imp.drop))
    · refine TO.onP rfl (DP.mv (by conv => lhs; whnf)) ?_
      refine TO.onP rfl (DP.gtr (b := 8192) rfl rfl) ?_
      refine TO.p (DP.pkF rfl (by conv => lhs; whnf)) ?_
      refine TO.p (DP.as (by conv => lhs; whnf)) ?_
      refine TO.nil ?_
      refine TQ.nn ?_
      refine T.ret ?_
      refine TQ.ret (vs := [.bool _]) (L' := [_]) rfl ⟨rfl, rfl⟩ ⟨_, rfl, (fun h => by have h6 : ¬ 8192 < lensE (l.take i) := of_decide_eq_false h; have h7 := hend (by omega); rw [h7, List.take_length] at h6; omega), rfl⟩ (by (refine Ent.imp ?_; repeat first | exact Imp.refl _ | exact Imp.nil _ | (apply Imp.pull; focus ((repeat first | exact Del.head _ _ | apply Del.tail); done)) | (apply Imp.row; focus ((repeat first | exact Del.head _ _ | apply Del.tail); done)) | apply Imp.drop))
end Go.Proofs.YtbandaebilkkkaaDoor
