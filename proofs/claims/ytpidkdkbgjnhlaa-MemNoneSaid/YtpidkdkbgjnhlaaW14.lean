/- Lemmas for the proofs of this seat: no statement of the seat is claimed here. -/
import Derived.Test.YtpidkdkbgjnhlaaA1
set_option linter.all false
namespace Go.Proofs.Ytpidkdkbgjnhlaa
open Go Pw
set_option maxRecDepth 20000
set_option maxHeartbeats 4000000
def wideN (n : Int) : Nat := if n.tmod 3 = 1 then 4 else if n.tmod 3 = 2 then 8 else 2
theorem wideN_le (n : Int) : wideN n ≤ 8 := by unfold wideN; split; omega; split <;> omega
theorem numE_lt (bs : List UInt8) (a n : Nat) : (numE bs a n).1 < 256 ^ n := by
  unfold numE
  split
  · rename_i h
    have := leN_lt ((bs.drop a).take n)
    rw [len_part h] at this; exact this
  · exact Nat.pow_pos (by omega)
structure Stp where
  dd : Int
  at_ : Nat
  n : Int
  x : Nat
  s : List UInt8
def stepV (t : Stp) : List Value := [.int .i64 t.dd, .int .u32 t.at_, .int .i64 t.n, .int .u64 t.x, str t.s]
theorem stepV_len (t : Stp) : (stepV t).length = 5 := rfl
abbrev stepsV (l : List Stp) : List Value := l.flatMap stepV
structure Stp.ok (t : Stp) : Prop where
  at_ : t.at_ < 4294967296
  n1 : -9223372036854775808 ≤ t.n
  n2 : t.n < 9223372036854775808
  x : t.x < 18446744073709551616
  s : t.s.length ≤ 140737488351232
def stepsLen (l : List Stp) : Nat := (l.map fun t => t.s.length).sum
theorem stepsLen_succ {l : List Stp} {i : Nat} {t : Stp} (h : l[i]? = some t) : stepsLen (l.take (i + 1)) = stepsLen (l.take i) + t.s.length := by
  unfold stepsLen; rw [List.take_add_one, h]; simp
theorem stepsLen_le {l : List Stp} (h : ∀ t ∈ l, t.ok) : stepsLen l ≤ l.length * 140737488351232 := by
  induction l with
  | nil => simp [stepsLen]
  | cons t l ih =>
    have h1 := (h t (by simp)).s
    have h2 := ih fun t ht => h t (by simp [ht])
    have e : stepsLen (t :: l) = t.s.length + stepsLen l := by simp [stepsLen]
    rw [e, List.length_cons, Nat.succ_mul]; omega
theorem stepsLen_take_le {l : List Stp} (h : ∀ t ∈ l, t.ok) (i : Nat) : stepsLen (l.take i) ≤ i * 140737488351232 :=
  Nat.le_trans (stepsLen_le fun t ht => h t (List.mem_of_mem_take ht)) (Nat.mul_le_mul_right _ (by simp; omega))
theorem pl9 : plainT Try.prog 9 = true := by kernel_rfl
theorem sz9 : Try.prog.cellsOf 9 = 0 + 1 := by kernel_rfl
theorem sz33 : Try.prog.cellsOf 33 = 4 + 1 := by kernel_rfl
theorem zr33 : Try.prog.zeroOf 33 = some (.agg #[.int .i64 0, .int .u32 0, .int .i64 0, .int .u64 0, .string ⟨#[]⟩]) := by kernel_rfl
theorem wide_spec (n : Int) :
    Sat Try.prog 57 [.int .i64 n] [] (fun u L' => u = .int .i64 (wideN n : Nat) ∧ L' = []) := by
  refine Sat.enter Try.func57 rfl Try.ntmps57 rfl (fun c R => ?_)
  try simp only [List.cons_append, List.nil_append]
  refine T.seq ?_
  refine T.reg ?_
  refine TO.p (DP.as (by conv => lhs; whnf)) ?_
  refine TO.nil ?_
  refine TQ.nn ?_
  refine T.seq ?_
  refine T.seq ?_
  refine T.reg ?_
  refine TO.p (DP.mv (by conv => lhs; whnf)) ?_
  refine TO.p (DP.remI rfl rfl (by decide)) ?_
  refine TO.nil ?_
  refine TQ.nn ?_
  refine T.block ?_
  refine T.seq ?_
  refine T.reg ?_
  refine TO.p (DP.eqlI rfl rfl) ?_
  refine TO.p (DP.as (by conv => lhs; whnf)) ?_
  refine TO.nil ?_
  refine TQ.nn ?_
  refine T.condD rfl (fun hc0 => ?_) (fun hc0 => ?_)
  · refine T.seq ?_
    refine T.reg ?_
    refine TO.p (DP.as (by conv => lhs; whnf)) ?_
    refine TO.nil ?_
    refine TQ.nn ?_
    refine T.ret ?_
    refine TQ.br ?_
    refine TQ.nr ?_
    refine TQ.ret (vs := [.int .i64 (wideN n : Nat)]) (L' := []) rfl ⟨by rw [show wideN n = 4 by unfold wideN; rw [if_pos hc0]]; rfl, rfl⟩ ⟨rfl, rfl⟩ (by (refine Ent.imp ?_; repeat first | exact Imp.refl _ | exact Imp.nil _ | (apply Imp.pull; focus ((repeat first | exact Del.head _ _ | apply Del.tail); done)) | (apply Imp.row; focus ((repeat first | exact Del.head _ _ | apply Del.tail); done)) | apply Imp.drop))
  · refine T.seq ?_
    refine T.reg ?_
    refine TO.p (DP.eqlI rfl rfl) ?_
    refine TO.p (DP.as (by conv => lhs; whnf)) ?_
    refine TO.nil ?_
    refine TQ.nn ?_
    refine T.condD rfl (fun hc1 => ?_) (fun hc1 => ?_)
    · refine T.seq ?_
      refine T.reg ?_
      refine TO.p (DP.as (by conv => lhs; whnf)) ?_
      refine TO.nil ?_
      refine TQ.nn ?_
      refine T.ret ?_
      refine TQ.br ?_
      refine TQ.nr ?_
      refine TQ.ret (vs := [.int .i64 (wideN n : Nat)]) (L' := []) rfl ⟨by rw [show wideN n = 8 by unfold wideN; rw [if_neg hc0, if_pos hc1]]; rfl, rfl⟩ ⟨rfl, rfl⟩ (by (refine Ent.imp ?_; repeat first | exact Imp.refl _ | exact Imp.nil _ | (apply Imp.pull; focus ((repeat first | exact Del.head _ _ | apply Del.tail); done)) | (apply Imp.row; focus ((repeat first | exact Del.head _ _ | apply Del.tail); done)) | apply Imp.drop))
    · refine T.skip ?_
      refine TQ.bn ?_
      refine TQ.nn ?_
      refine T.seq ?_
      refine T.reg ?_
      refine TO.p (DP.as (by conv => lhs; whnf)) ?_
      refine TO.nil ?_
      refine TQ.nn ?_
      refine T.ret ?_
      refine TQ.ret (vs := [.int .i64 (wideN n : Nat)]) (L' := []) rfl ⟨by rw [show wideN n = 2 by unfold wideN; rw [if_neg hc0, if_neg hc1]]; rfl, rfl⟩ ⟨rfl, rfl⟩ (by (refine Ent.imp ?_; repeat first | exact Imp.refl _ | exact Imp.nil _ | (apply Imp.pull; focus ((repeat first | exact Del.head _ _ | apply Del.tail); done)) | (apply Imp.row; focus ((repeat first | exact Del.head _ _ | apply Del.tail); done)) | apply Imp.drop))

theorem put32M (p at_ x : Nat) (bs : List UInt8) (lt : List Bool) (ha : at_ < 4294967296) :
    Sat Try.prog 37 [.pointer (some ⟨p, 0, none⟩), .int .u32 at_, .int .u32 ((x % 2 ^ 32 : Nat) : Int)] [memA p bs lt] (fun u L' => u = .int .i64 ((writeE bs lt at_ (leB x 4) false 11).1 : Nat) ∧ L' = [memA p (writeE bs lt at_ (leB x 4) false 11).2 lt]) := by
  have := put32A p at_ (x % 2 ^ 32) bs lt ha (Nat.mod_lt _ (by decide))
  rw [leB_mod (by decide)] at this
  exact this

theorem put16M (p at_ x : Nat) (bs : List UInt8) (lt : List Bool) (ha : at_ < 4294967296) :
    Sat Try.prog 36 [.pointer (some ⟨p, 0, none⟩), .int .u32 at_, .int .u16 ((x % 2 ^ 16 : Nat) : Int)] [memA p bs lt] (fun u L' => u = .int .i64 ((writeE bs lt at_ (leB x 2) false 11).1 : Nat) ∧ L' = [memA p (writeE bs lt at_ (leB x 2) false 11).2 lt]) := by
  have := put16A p at_ (x % 2 ^ 16) bs lt ha (Nat.mod_lt _ (by decide))
  rw [leB_mod (by decide)] at this
  exact this

theorem number_spec (p at_ : Nat) (n : Int) (bs : List UInt8) (lt : List Bool) (ha : at_ < 4294967296) :
    Sat Try.prog 55 [.pointer (some ⟨p, 0, none⟩), .int .u32 at_, .int .i64 n] [memA p bs lt] (fun u L' => u = .tuple #[.int .u64 ((numE bs at_ (wideN n)).1 : Nat), .int .i64 ((numE bs at_ (wideN n)).2 : Nat)] ∧ L' = [memA p bs lt]) := by
  refine Sat.enter Try.func55 rfl Try.ntmps55 rfl (fun c R => ?_)
  try simp only [List.cons_append, List.nil_append]
  have hb2 := numE_lt bs at_ 2
  have hb4 := numE_lt bs at_ 4
  refine T.seq ?_
  refine T.reg ?_
  refine TO.p (DP.as (by conv => lhs; whnf)) ?_
  refine TO.p (DP.as (by conv => lhs; whnf)) ?_
  refine TO.nil ?_
  refine TQ.nn ?_
  refine T.seq ?_
  refine T.seq ?_
  refine T.reg ?_
  refine TO.p (DP.mv (by conv => lhs; whnf)) ?_
  refine TO.p (DP.remI rfl rfl (by decide)) ?_
  refine TO.nil ?_
  refine TQ.nn ?_
  refine T.block ?_
  refine T.seq ?_
  refine T.reg ?_
  refine TO.p (DP.eqlI rfl rfl) ?_
  refine TO.p (DP.as (by conv => lhs; whnf)) ?_
  refine TO.nil ?_
  refine TQ.nn ?_
  refine T.condD rfl (fun hc0 => ?_) (fun hc0 => ?_)
  · refine T.seq ?_
    refine T.reg ?_
    refine TO.p (DP.mv (by conv => lhs; whnf)) ?_
    refine TO.p (DP.mv (by conv => lhs; whnf)) ?_
    refine TO.n (N.callF (u32A p at_ bs lt ha) Try.call33 ⟨rfl, rfl, trivial⟩ (by (repeat first | exact Pick.nil _ | (apply Pick.cons; focus ((repeat first | exact Del.head _ _ | apply Del.tail); done))))) ?_
    rintro u19 _ ⟨_, ⟨rfl, rfl⟩, rfl⟩
    try simp only [List.cons_append, List.nil_append]
    refine TO.p (DP.mv (by conv => lhs; whnf)) ?_
    refine TO.p (DP.ex rfl rfl) ?_
    refine TO.p (DP.ex rfl rfl) ?_
    refine TO.p (DP.as (by conv => lhs; whnf)) ?_
    refine TO.p (DP.as (by conv => lhs; whnf)) ?_
    refine TO.nil ?_
    refine TQ.nn ?_
    refine T.seq ?_
    refine T.reg ?_
    refine TO.p (DP.mv (by conv => lhs; whnf)) ?_
    refine TO.p (DP.cv rfl is30 Try.underlying31 (l := 18446744073709551616) rfl (by omega)) ?_
    refine TO.p (DP.mv (by conv => lhs; whnf)) ?_
    refine TO.p (DP.as (by conv => lhs; whnf)) ?_
    refine TO.p (DP.as (by conv => lhs; whnf)) ?_
    refine TO.nil ?_
    refine TQ.nn ?_
    refine T.ret ?_
    refine TQ.br ?_
    refine TQ.nr ?_
    have hw : wideN n = 4 := by unfold wideN; rw [if_pos hc0]
    rw [hw]
    refine TQ.ret (vs := [_, _]) (L' := [_]) rfl ⟨rfl, rfl, rfl⟩ ⟨rfl, rfl⟩ (by (refine Ent.imp ?_; repeat first | exact Imp.refl _ | exact Imp.nil _ | (apply Imp.pull; focus ((repeat first | exact Del.head _ _ | apply Del.tail); done)) | (apply Imp.row; focus ((repeat first | exact Del.head _ _ | apply Del.tail); done)) | apply Imp.drop))
  · refine T.seq ?_
    refine T.reg ?_
    refine TO.p (DP.eqlI rfl rfl) ?_
    refine TO.p (DP.as (by conv => lhs; whnf)) ?_
    refine TO.nil ?_
    refine TQ.nn ?_
    refine T.condD rfl (fun hc1 => ?_) (fun hc1 => ?_)
    · refine T.seq ?_
      refine T.reg ?_
      refine TO.p (DP.mv (by conv => lhs; whnf)) ?_
      refine TO.p (DP.mv (by conv => lhs; whnf)) ?_
      refine TO.n (N.callF (u64A p at_ bs lt ha) Try.call34 ⟨rfl, rfl, trivial⟩ (by (repeat first | exact Pick.nil _ | (apply Pick.cons; focus ((repeat first | exact Del.head _ _ | apply Del.tail); done))))) ?_
      rintro u29 _ ⟨_, ⟨rfl, rfl⟩, rfl⟩
      try simp only [List.cons_append, List.nil_append]
      refine TO.p (DP.ex rfl rfl) ?_
      refine TO.p (DP.ex rfl rfl) ?_
      refine TO.p (DP.as (by conv => lhs; whnf)) ?_
      refine TO.p (DP.as (by conv => lhs; whnf)) ?_
      refine TO.nil ?_
      refine TQ.nn ?_
      refine T.ret ?_
      refine TQ.br ?_
      refine TQ.nr ?_
      have hw : wideN n = 8 := by unfold wideN; rw [if_neg hc0, if_pos hc1]
      rw [hw]
      refine TQ.ret (vs := [_, _]) (L' := [_]) rfl ⟨rfl, rfl, rfl⟩ ⟨rfl, rfl⟩ (by (refine Ent.imp ?_; repeat first | exact Imp.refl _ | exact Imp.nil _ | (apply Imp.pull; focus ((repeat first | exact Del.head _ _ | apply Del.tail); done)) | (apply Imp.row; focus ((repeat first | exact Del.head _ _ | apply Del.tail); done)) | apply Imp.drop))
    · refine T.skip ?_
      refine TQ.bn ?_
      refine TQ.nn ?_
      refine T.seq ?_
      refine T.reg ?_
      refine TO.p (DP.mv (by conv => lhs; whnf)) ?_
      refine TO.p (DP.mv (by conv => lhs; whnf)) ?_
      refine TO.n (N.callF (u16A p at_ bs lt ha) Try.call32 ⟨rfl, rfl, trivial⟩ (by (repeat first | exact Pick.nil _ | (apply Pick.cons; focus ((repeat first | exact Del.head _ _ | apply Del.tail); done))))) ?_
      rintro u35 _ ⟨_, ⟨rfl, rfl⟩, rfl⟩
      try simp only [List.cons_append, List.nil_append]
      refine TO.p (DP.mv (by conv => lhs; whnf)) ?_
      refine TO.p (DP.ex rfl rfl) ?_
      refine TO.p (DP.ex rfl rfl) ?_
      refine TO.p (DP.as (by conv => lhs; whnf)) ?_
      refine TO.p (DP.as (by conv => lhs; whnf)) ?_
      refine TO.nil ?_
      refine TQ.nn ?_
      refine T.seq ?_
      refine T.reg ?_
      refine TO.p (DP.mv (by conv => lhs; whnf)) ?_
      refine TO.p (DP.cv rfl is22 Try.underlying31 (l := 18446744073709551616) rfl (by omega)) ?_
      refine TO.p (DP.mv (by conv => lhs; whnf)) ?_
      refine TO.p (DP.as (by conv => lhs; whnf)) ?_
      refine TO.p (DP.as (by conv => lhs; whnf)) ?_
      refine TO.nil ?_
      refine TQ.nn ?_
      refine T.ret ?_
      have hw : wideN n = 2 := by unfold wideN; rw [if_neg hc0, if_neg hc1]
      rw [hw]
      refine TQ.ret (vs := [_, _]) (L' := [_]) rfl ⟨rfl, rfl, rfl⟩ ⟨rfl, rfl⟩ (by (refine Ent.imp ?_; repeat first | exact Imp.refl _ | exact Imp.nil _ | (apply Imp.pull; focus ((repeat first | exact Del.head _ _ | apply Del.tail); done)) | (apply Imp.row; focus ((repeat first | exact Del.head _ _ | apply Del.tail); done)) | apply Imp.drop))

theorem put_spec (p at_ x : Nat) (n : Int) (bs : List UInt8) (lt : List Bool) (ha : at_ < 4294967296) (hx : x < 18446744073709551616) :
    Sat Try.prog 13 [.pointer (some ⟨p, 0, none⟩), .int .u32 at_, .int .i64 n, .int .u64 x] [memA p bs lt] (fun u L' => u = .int .i64 ((writeE bs lt at_ (leB x (wideN n)) false 11).1 : Nat) ∧ L' = [memA p (writeE bs lt at_ (leB x (wideN n)) false 11).2 lt]) := by
  refine Sat.enter Try.func13 rfl Try.ntmps13 rfl (fun c R => ?_)
  try simp only [List.cons_append, List.nil_append]
  refine T.seq ?_
  refine T.reg ?_
  refine TO.p (DP.as (by conv => lhs; whnf)) ?_
  refine TO.nil ?_
  refine TQ.nn ?_
  refine T.seq ?_
  refine T.seq ?_
  refine T.reg ?_
  refine TO.p (DP.mv (by conv => lhs; whnf)) ?_
  refine TO.p (DP.remI rfl rfl (by decide)) ?_
  refine TO.nil ?_
  refine TQ.nn ?_
  refine T.block ?_
  refine T.seq ?_
  refine T.reg ?_
  refine TO.p (DP.eqlI rfl rfl) ?_
  refine TO.p (DP.as (by conv => lhs; whnf)) ?_
  refine TO.nil ?_
  refine TQ.nn ?_
  refine T.condD rfl (fun hc0 => ?_) (fun hc0 => ?_)
  · refine T.seq ?_
    refine T.reg ?_
    refine TO.p (DP.mv (by conv => lhs; whnf)) ?_
    refine TO.p (DP.mv (by conv => lhs; whnf)) ?_
    refine TO.p (DP.mv (by conv => lhs; whnf)) ?_
    refine TO.p (DP.cvW rfl is31 Try.underlying30 rfl (l := 2 ^ 32) rfl) ?_
    refine TO.n (N.callF (put32M p at_ x bs lt ha) Try.call37 ⟨rfl, rfl, rfl, trivial⟩ (by (repeat first | exact Pick.nil _ | (apply Pick.cons; focus ((repeat first | exact Del.head _ _ | apply Del.tail); done))))) ?_
    rintro u17 _ ⟨_, ⟨rfl, rfl⟩, rfl⟩
    try simp only [List.cons_append, List.nil_append]
    refine TO.p (DP.as (by conv => lhs; whnf)) ?_
    refine TO.nil ?_
    refine TQ.nn ?_
    refine T.ret ?_
    refine TQ.br ?_
    refine TQ.nr ?_
    have hw : wideN n = 4 := by unfold wideN; rw [if_pos hc0]
    rw [hw]
    refine TQ.ret (vs := [_]) (L' := [_]) rfl ⟨rfl, rfl⟩ ⟨rfl, rfl⟩ (by (refine Ent.imp ?_; repeat first | exact Imp.refl _ | exact Imp.nil _ | (apply Imp.pull; focus ((repeat first | exact Del.head _ _ | apply Del.tail); done)) | (apply Imp.row; focus ((repeat first | exact Del.head _ _ | apply Del.tail); done)) | apply Imp.drop))
  · refine T.seq ?_
    refine T.reg ?_
    refine TO.p (DP.eqlI rfl rfl) ?_
    refine TO.p (DP.as (by conv => lhs; whnf)) ?_
    refine TO.nil ?_
    refine TQ.nn ?_
    refine T.condD rfl (fun hc1 => ?_) (fun hc1 => ?_)
    · refine T.seq ?_
      refine T.reg ?_
      refine TO.p (DP.mv (by conv => lhs; whnf)) ?_
      refine TO.p (DP.mv (by conv => lhs; whnf)) ?_
      refine TO.p (DP.mv (by conv => lhs; whnf)) ?_
      refine TO.n (N.callF (put64A p at_ x bs lt ha hx) Try.call38 ⟨rfl, rfl, rfl, trivial⟩ (by (repeat first | exact Pick.nil _ | (apply Pick.cons; focus ((repeat first | exact Del.head _ _ | apply Del.tail); done))))) ?_
      rintro u23 _ ⟨_, ⟨rfl, rfl⟩, rfl⟩
      try simp only [List.cons_append, List.nil_append]
      refine TO.p (DP.as (by conv => lhs; whnf)) ?_
      refine TO.nil ?_
      refine TQ.nn ?_
      refine T.ret ?_
      refine TQ.br ?_
      refine TQ.nr ?_
      have hw : wideN n = 8 := by unfold wideN; rw [if_neg hc0, if_pos hc1]
      rw [hw]
      refine TQ.ret (vs := [_]) (L' := [_]) rfl ⟨rfl, rfl⟩ ⟨rfl, rfl⟩ (by (refine Ent.imp ?_; repeat first | exact Imp.refl _ | exact Imp.nil _ | (apply Imp.pull; focus ((repeat first | exact Del.head _ _ | apply Del.tail); done)) | (apply Imp.row; focus ((repeat first | exact Del.head _ _ | apply Del.tail); done)) | apply Imp.drop))
    · refine T.skip ?_
      refine TQ.bn ?_
      refine TQ.nn ?_
      refine T.seq ?_
      refine T.reg ?_
      refine TO.p (DP.mv (by conv => lhs; whnf)) ?_
      refine TO.p (DP.mv (by conv => lhs; whnf)) ?_
      refine TO.p (DP.mv (by conv => lhs; whnf)) ?_
      refine TO.p (DP.cvW rfl is31 Try.underlying22 rfl (l := 2 ^ 16) rfl) ?_
      refine TO.n (N.callF (put16M p at_ x bs lt ha) Try.call36 ⟨rfl, rfl, rfl, trivial⟩ (by (repeat first | exact Pick.nil _ | (apply Pick.cons; focus ((repeat first | exact Del.head _ _ | apply Del.tail); done))))) ?_
      rintro u28 _ ⟨_, ⟨rfl, rfl⟩, rfl⟩
      try simp only [List.cons_append, List.nil_append]
      refine TO.p (DP.as (by conv => lhs; whnf)) ?_
      refine TO.nil ?_
      refine TQ.nn ?_
      refine T.ret ?_
      have hw : wideN n = 2 := by unfold wideN; rw [if_neg hc0, if_neg hc1]
      rw [hw]
      refine TQ.ret (vs := [_]) (L' := [_]) rfl ⟨rfl, rfl⟩ ⟨rfl, rfl⟩ (by (refine Ent.imp ?_; repeat first | exact Imp.refl _ | exact Imp.nil _ | (apply Imp.pull; focus ((repeat first | exact Del.head _ _ | apply Del.tail); done)) | (apply Imp.row; focus ((repeat first | exact Del.head _ _ | apply Del.tail); done)) | apply Imp.drop))

theorem heavy_spec (h : Array Obj) (v : Value) (l : List Stp) (size : Int) (hI : Inp h 5 l.length v (stepsV l)) (hok : ∀ t ∈ l, t.ok) :
    Sat Try.prog 7 [.int .i64 size, v] [old h] (fun u L' => ∃ b : Bool, u = .bool b ∧ (b = false → l.length ≤ 200 ∧ stepsLen l ≤ 16384 ∧ (size ≤ 4096 ∨ 1048576 < size)) ∧ L' = [old h]) := by
  refine Sat.enter Try.func7 rfl Try.ntmps7 rfl (fun c R => ?_)
  try simp only [List.cons_append, List.nil_append]
  refine T.seq ?_
  refine T.reg ?_
  refine TO.p (DP.as (by conv => lhs; whnf)) ?_
  refine TO.nil ?_
  refine TQ.nn ?_
  refine T.seq ?_
  refine T.reg ?_
  refine TO.p (DP.as (by conv => lhs; whnf)) ?_
  refine TO.nil ?_
  refine TQ.nn ?_
  refine T.seq ?_
  refine T.seq ?_
  refine T.reg ?_
  refine TO.p (DP.as (by conv => lhs; whnf)) ?_
  refine TO.nil ?_
  refine TQ.nn ?_
  refine T.block ?_
  refine T.loop (S := Nat × Int) (0, 0) (fun ⟨i, z⟩ => [(0, .int .i64 size), (1, v), (5, .int .i64 z), (6, .int .i64 (i : Nat))]) (fun ⟨i, z⟩ => old h :: R) (fun ⟨i, z⟩ => i ≤ l.length ∧ (i ≤ 200 → z = (stepsLen (l.take i) : Nat))) (fun ⟨i, z⟩ => l.length - i) ?_ ?_ ?_ ?_
  · (repeat first | exact trivial | refine ⟨rfl, ?_⟩)
  · exact ⟨Nat.zero_le _, fun _ => rfl⟩
  · exact Ent.refl _ _
  rintro ⟨i, z⟩ g hI1
  try dsimp only
  refine T.seq ?_
  refine T.seq ?_
  refine T.reg ?_
  refine TO.p (DP.mv (by conv => lhs; whnf)) ?_
  refine TO.p (DP.mv (by conv => lhs; whnf)) ?_
  refine TO.p (DP.lenI hI rfl Try.underlying23) ?_
  refine TO.p (DP.lss rfl rfl) ?_
  refine TO.nil ?_
  refine TQ.nn ?_
  refine T.condD rfl (fun hc0 => ?_) (fun hc0 => ?_)
  · obtain ⟨hi, hz⟩ := hI1
    obtain ⟨t, ht⟩ := get_some (l := l) (i := i) (by omega)
    have htk := hok t (mem_of_get ht)
    have hts := htk.s
    have hcs := stepsLen_succ ht
    have hcl := stepsLen_take_le hok i
    have hil := hI.2.1
    have hnx : i + 1 ≤ 200 → IntKind.i64.wrap (z + (t.s.length : Nat)) = (stepsLen (l.take (i + 1)) : Nat) := fun h2 => by
      rw [hz (by omega), hcs, wrap_fits (by simp [IntKind.fits, IntKind.lim, IntKind.signed, IntKind.bits]; omega)]; omega
    refine T.skip ?_
    refine TQ.nn ?_
    refine T.seq ?_
    refine T.block ?_
    refine T.reg ?_
    refine TO.p (DP.mv (by conv => lhs; whnf)) ?_
    refine TO.p (DP.mv (by conv => lhs; whnf)) ?_
    refine TO.p (DP.mv (by conv => lhs; whnf)) ?_
    refine TO.p (DP.iasH (n := l.length) (sz := 4) hI rfl rfl Try.underlying23 sz33 (by omega)) ?_
    refine TO.p (DP.faH 4 hI (by omega) (by conv => lhs; whnf) Try.underlying33 rfl rfl sz9) ?_
    refine TO.d (D.ldHF (u := str t.s) hI (by omega) (by conv => lhs; whnf) pl9 (by (repeat first | exact LMem.head _ _ | apply LMem.tail)) (flat_elem stepV_len ht 4 _ rfl)) ?_
    refine TO.p (DP.lenT rfl Try.underlying9) ?_
    refine TO.p (DP.addX rfl rfl) ?_
    refine TO.p (DP.as (by conv => lhs; whnf)) ?_
    refine TO.nil ?_
    refine TQ.bn ?_
    refine TQ.nn ?_
    refine T.reg ?_
    refine TO.p (DP.mv (by conv => lhs; whnf)) ?_
    refine TO.p (DP.add (b := 1) rfl rfl (l := 9223372036854775808) rfl (by omega)) ?_
    refine TO.p (DP.as (by conv => lhs; whnf)) ?_
    refine TO.nil ?_
    refine TQ.round (i + 1, IntKind.i64.wrap (z + (t.s.length : Nat))) rfl ?_ ?_ ?_ ?_
    · (repeat first | exact trivial | refine ⟨rfl, ?_⟩)
    · exact ⟨by dsimp only; omega, hnx⟩
    · (dsimp only; omega)
    · exact Ent.refl _ _
  · obtain ⟨hi, hz⟩ := hI1
    obtain rfl : i = l.length := by omega
    rw [List.take_length] at hz
    refine T.exit ?_
    refine TQ.ne ?_
    refine TQ.le ?_
    refine TQ.be ?_
    refine TQ.nn ?_
    refine T.seq ?_
    refine T.reg ?_
    refine TO.p (DP.mv (by conv => lhs; whnf)) ?_
    refine TO.p (DP.lenI hI rfl Try.underlying23) ?_
    refine TO.p (DP.gtr (b := 200) rfl rfl) ?_
    refine TO.pB (DP.mv (by conv => lhs; whnf)) (fun hg24 => ?_) (fun hg24 => ?_)
    · refine TO.off rfl rfl ?_
      refine TO.off rfl rfl ?_
      refine TO.p (DP.pkT rfl (by conv => lhs; whnf)) ?_
      refine TO.p (DP.mv (by conv => lhs; whnf)) ?_
      refine TO.off rfl rfl ?_
      refine TO.off rfl rfl ?_
      refine TO.off rfl rfl ?_
      refine TO.offU rfl ?_
      refine TO.offU rfl ?_
      refine TO.off rfl rfl ?_
      refine TO.p (DP.pkT rfl (by conv => lhs; whnf)) ?_
      refine TO.p (DP.as (by conv => lhs; whnf)) ?_
      refine TO.nil ?_
      refine TQ.nn ?_
      refine T.ret ?_
      refine TQ.ret (vs := [.bool _]) (L' := [_]) rfl ⟨rfl, rfl⟩ ⟨_, rfl, (fun h => by cases h), rfl⟩ (by (refine Ent.imp ?_; repeat first | exact Imp.refl _ | exact Imp.nil _ | (apply Imp.pull; focus ((repeat first | exact Del.head _ _ | apply Del.tail); done)) | (apply Imp.row; focus ((repeat first | exact Del.head _ _ | apply Del.tail); done)) | apply Imp.drop))
    · refine TO.onP rfl (DP.mv (by conv => lhs; whnf)) ?_
      refine TO.onP rfl (DP.gtrI rfl rfl) ?_
      refine TO.p (DP.pkF rfl (by conv => lhs; whnf)) ?_
      refine TO.pB (DP.mv (by conv => lhs; whnf)) (fun hg28 => ?_) (fun hg28 => ?_)
      · refine TO.off rfl rfl ?_
        refine TO.off rfl rfl ?_
        refine TO.off rfl rfl ?_
        refine TO.offU rfl ?_
        refine TO.offU rfl ?_
        refine TO.off rfl rfl ?_
        refine TO.p (DP.pkT rfl (by conv => lhs; whnf)) ?_
        refine TO.p (DP.as (by conv => lhs; whnf)) ?_
        refine TO.nil ?_
        refine TQ.nn ?_
        refine T.ret ?_
        refine TQ.ret (vs := [.bool _]) (L' := [_]) rfl ⟨rfl, rfl⟩ ⟨_, rfl, (fun h => by cases h), rfl⟩ (by (refine Ent.imp ?_; repeat first | exact Imp.refl _ | exact Imp.nil _ | (apply Imp.pull; focus ((repeat first | exact Del.head _ _ | apply Del.tail); done)) | (apply Imp.row; focus ((repeat first | exact Del.head _ _ | apply Del.tail); done)) | apply Imp.drop))
      · refine TO.onP rfl (DP.mv (by conv => lhs; whnf)) ?_
        refine TO.onP rfl (DP.gtrI rfl rfl) ?_
        refine TO.onB rfl (DP.mv (by conv => lhs; whnf)) (fun hg31 => ?_) (fun hg31 => ?_)
        · refine TO.onP rfl (DP.mv (by conv => lhs; whnf)) ?_
          refine TO.onP rfl (DP.leqI rfl rfl) ?_
          refine TO.onP rfl (DP.pkT rfl (by conv => lhs; whnf)) ?_
          refine TO.p (DP.pkF rfl (by conv => lhs; whnf)) ?_
          refine TO.p (DP.as (by conv => lhs; whnf)) ?_
          refine TO.nil ?_
          refine TQ.nn ?_
          refine T.ret ?_
          refine TQ.ret (vs := [.bool _]) (L' := [_]) rfl ⟨rfl, rfl⟩ ⟨_, rfl, (fun h => ⟨by omega, by have := hz (by omega); omega, by simp at h; omega⟩), rfl⟩ (by (refine Ent.imp ?_; repeat first | exact Imp.refl _ | exact Imp.nil _ | (apply Imp.pull; focus ((repeat first | exact Del.head _ _ | apply Del.tail); done)) | (apply Imp.row; focus ((repeat first | exact Del.head _ _ | apply Del.tail); done)) | apply Imp.drop))
        · refine TO.off rfl rfl ?_
          refine TO.off rfl rfl ?_
          refine TO.onP rfl (DP.pkF rfl (by conv => lhs; whnf)) ?_
          refine TO.p (DP.pkF rfl (by conv => lhs; whnf)) ?_
          refine TO.p (DP.as (by conv => lhs; whnf)) ?_
          refine TO.nil ?_
          refine TQ.nn ?_
          refine T.ret ?_
          refine TQ.ret (vs := [.bool _]) (L' := [_]) rfl ⟨rfl, rfl⟩ ⟨_, rfl, (fun h => ⟨by omega, by have := hz (by omega); omega, by omega⟩), rfl⟩ (by (refine Ent.imp ?_; repeat first | exact Imp.refl _ | exact Imp.nil _ | (apply Imp.pull; focus ((repeat first | exact Del.head _ _ | apply Del.tail); done)) | (apply Imp.row; focus ((repeat first | exact Del.head _ _ | apply Del.tail); done)) | apply Imp.drop))

theorem same_eq (u v : Value) (ss : List Spn) (hl : ss.length ≤ 1048576) :
    Sat Try.prog 18 [u, v] [sl 42 2 u ss.length (spans ss), sl 42 2 v ss.length (spans ss)] (fun w L' => w = .bool true ∧ L' = []) := by
  refine Sat.enter Try.func18 rfl Try.ntmps18 rfl (fun c R => ?_)
  try simp only [List.cons_append, List.nil_append]
  refine T.seq ?_
  refine T.reg ?_
  refine TO.p (DP.as (by conv => lhs; whnf)) ?_
  refine TO.nil ?_
  refine TQ.nn ?_
  refine T.seq ?_
  refine T.seq ?_
  refine T.reg ?_
  refine TO.p (DP.mv (by conv => lhs; whnf)) ?_
  refine TO.d (D.lenO (by conv => lhs; whnf) Try.underlying36 (by (repeat first | exact LMem.head _ _ | apply LMem.tail))) ?_
  refine TO.p (DP.mv (by conv => lhs; whnf)) ?_
  refine TO.d (D.lenO (by conv => lhs; whnf) Try.underlying36 (by (repeat first | exact LMem.head _ _ | apply LMem.tail))) ?_
  refine TO.p (DP.neq rfl rfl) ?_
  refine TO.nil ?_
  refine TQ.nn ?_
  refine T.condD rfl (fun hc0 => ?_) (fun hc0 => ?_)
  · exact absurd rfl hc0
  · refine T.skip ?_
    refine TQ.nn ?_
    refine T.seq ?_
    refine T.seq ?_
    refine T.reg ?_
    refine TO.p (DP.as (by conv => lhs; whnf)) ?_
    refine TO.nil ?_
    refine TQ.nn ?_
    refine T.block ?_
    refine T.loop (S := Nat) 0 (fun i => [(0, u), (1, v), (5, .int .i64 (i : Nat))]) (fun i => sl 42 2 u ss.length (spans ss) :: sl 42 2 v ss.length (spans ss) :: R) (fun i => i ≤ ss.length) (fun i => ss.length - i) ?_ ?_ ?_ ?_
    · (repeat first | exact trivial | refine ⟨rfl, ?_⟩)
    · (first | trivial | omega | simp)
    · exact Ent.refl _ _
    rintro i g hI
    refine T.seq ?_
    refine T.seq ?_
    refine T.reg ?_
    refine TO.p (DP.mv (by conv => lhs; whnf)) ?_
    refine TO.p (DP.mv (by conv => lhs; whnf)) ?_
    refine TO.d (D.lenO (by conv => lhs; whnf) Try.underlying36 (by (repeat first | exact LMem.head _ _ | apply LMem.tail))) ?_
    refine TO.p (DP.lss rfl rfl) ?_
    refine TO.nil ?_
    refine TQ.nn ?_
    refine T.condD rfl (fun hc1 => ?_) (fun hc1 => ?_)
    · obtain ⟨s, hs⟩ := get_some (l := ss) (i := i) (by omega)
      have hus := flat_elem spv_len hs
      refine T.skip ?_
      refine TQ.nn ?_
      refine T.seq ?_
      refine T.block ?_
      refine T.seq ?_
      refine T.drawL [] mixed (by repeat first | exact Calm.rt | apply Calm.t | apply Calm.b | apply Calm.l | apply Calm.ct) ?_
      refine TR.p 0 rfl (by kernel_rfl) (DP.mv (by conv => lhs; whnf)) ?_
      refine TR.p 1 rfl (by kernel_rfl) (DP.mv (by conv => lhs; whnf)) ?_
      refine TR.d 2 rfl (by kernel_rfl) (by kernel_rfl) (by (refine Ent.imp ?_; repeat first | exact Imp.refl _ | exact Imp.nil _ | (apply Imp.pull; focus ((repeat first | exact Del.head _ _ | apply Del.tail); done)) | (apply Imp.row; focus ((repeat first | exact Del.head _ _ | apply Del.tail); done)) | apply Imp.drop)) (D.iasO (by conv => lhs; whnf) rfl Try.underlying36 sz42 (by (repeat first | exact LMem.head _ _ | apply LMem.tail)) (by omega)) ?_
      refine TR.d 3 rfl (by kernel_rfl) (by kernel_rfl) (by (refine Ent.imp ?_; repeat first | exact Imp.refl _ | exact Imp.nil _ | (apply Imp.pull; focus ((repeat first | exact Del.head _ _ | apply Del.tail); done)) | (apply Imp.row; focus ((repeat first | exact Del.head _ _ | apply Del.tail); done)) | apply Imp.drop)) (D.ldOA (us := [.int .u32 s.1, .int .u32 s.2]) (by conv => lhs; whnf) ag42 sz42 (by (repeat first | exact LMem.head _ _ | apply LMem.tail)) (by omega) hus rfl) ?_
      refine TR.p 4 rfl (by kernel_rfl) (DP.mv (by conv => lhs; whnf)) ?_
      refine TR.p 5 rfl (by kernel_rfl) (DP.mv (by conv => lhs; whnf)) ?_
      refine TR.d 6 rfl (by kernel_rfl) (by kernel_rfl) (by (refine Ent.imp ?_; repeat first | exact Imp.refl _ | exact Imp.nil _ | (apply Imp.pull; focus ((repeat first | exact Del.head _ _ | apply Del.tail); done)) | (apply Imp.row; focus ((repeat first | exact Del.head _ _ | apply Del.tail); done)) | apply Imp.drop)) (D.iasO (by conv => lhs; whnf) rfl Try.underlying36 sz42 (by (repeat first | exact LMem.head _ _ | apply LMem.tail)) (by omega)) ?_
      refine TR.d 7 rfl (by kernel_rfl) (by kernel_rfl) (by (refine Ent.imp ?_; repeat first | exact Imp.refl _ | exact Imp.nil _ | (apply Imp.pull; focus ((repeat first | exact Del.head _ _ | apply Del.tail); done)) | (apply Imp.row; focus ((repeat first | exact Del.head _ _ | apply Del.tail); done)) | apply Imp.drop)) (D.ldOA (us := [.int .u32 s.1, .int .u32 s.2]) (by conv => lhs; whnf) ag42 sz42 (by (repeat first | exact LMem.head _ _ | apply LMem.tail)) (by omega) hus rfl) ?_
      refine TR.p 8 rfl (by kernel_rfl) (DP.to (v' := .bool false) (DP.anql2 rfl rfl Try.underlying42 gd42 si42 (by decide) (by decide) rfl rfl Try.underlying30 Try.underlying30 sz30 sz30) (by simp)) ?_
      refine TR.done (by kernel_rfl) ?_
      refine TQ.nn ?_
      refine T.condF rfl ?_
      refine T.skip ?_
      refine TQ.bn ?_
      refine TQ.nn ?_
      refine T.reg ?_
      refine TO.p (DP.mv (by conv => lhs; whnf)) ?_
      refine TO.p (DP.add (b := 1) rfl rfl (l := 9223372036854775808) rfl (by omega)) ?_
      refine TO.p (DP.as (by conv => lhs; whnf)) ?_
      refine TO.nil ?_
      refine TQ.round (i + 1) rfl ?_ ?_ ?_ ?_
      · (repeat first | exact trivial | refine ⟨rfl, ?_⟩)
      · omega
      · omega
      · exact Ent.refl _ _
    · refine T.exit ?_
      refine TQ.ne ?_
      refine TQ.le ?_
      refine TQ.be ?_
      refine TQ.nn ?_
      refine T.seq ?_
      refine T.reg ?_
      refine TO.p (DP.as (by conv => lhs; whnf)) ?_
      refine TO.nil ?_
      refine TQ.nn ?_
      refine T.ret ?_
      refine TQ.ret (vs := [.bool true]) (L' := []) rfl ⟨rfl, rfl⟩ ⟨rfl, rfl⟩ (by (refine Ent.imp ?_; repeat first | exact Imp.refl _ | exact Imp.nil _ | (apply Imp.pull; focus ((repeat first | exact Del.head _ _ | apply Del.tail); done)) | (apply Imp.row; focus ((repeat first | exact Del.head _ _ | apply Del.tail); done)) | apply Imp.drop))

theorem in_spec (v : Value) (ss : List Spn) (k : Nat) (hl : ss.length ≤ 1048576) (hb : ∀ s ∈ ss, s.1 + s.2 ≤ 1048576) :
    Sat Try.prog 17 [v, .int .i64 k] [sl 42 2 v ss.length (spans ss)] (fun w L' => w = .bool (decide (inS ss k)) ∧ L' = [sl 42 2 v ss.length (spans ss)]) := by
  refine Sat.enter Try.func17 rfl Try.ntmps17 rfl (fun c R => ?_)
  try simp only [List.cons_append, List.nil_append]
  refine T.seq ?_
  refine T.reg ?_
  refine TO.p (DP.as (by conv => lhs; whnf)) ?_
  refine TO.nil ?_
  refine TQ.nn ?_
  refine T.seq ?_
  refine T.seq ?_
  refine T.reg ?_
  refine TO.p (DP.as (by conv => lhs; whnf)) ?_
  refine TO.nil ?_
  refine TQ.nn ?_
  refine T.block ?_
  refine T.loop (S := Nat) 0 (fun i => [(0, v), (1, .int .i64 (k : Nat)), (5, .int .i64 (i : Nat))]) (fun i => sl 42 2 v ss.length (spans ss) :: R) (fun i => i ≤ ss.length ∧ ∀ s ∈ ss.take i, ¬ (s.1 ≤ k ∧ k < s.1 + s.2)) (fun i => ss.length - i) ?_ ?_ ?_ ?_
  · (repeat first | exact trivial | refine ⟨rfl, ?_⟩)
  · exact ⟨Nat.zero_le _, by simp⟩
  · exact Ent.refl _ _
  rintro i g hI
  refine T.seq ?_
  refine T.seq ?_
  refine T.reg ?_
  refine TO.p (DP.mv (by conv => lhs; whnf)) ?_
  refine TO.p (DP.mv (by conv => lhs; whnf)) ?_
  refine TO.d (D.lenO (by conv => lhs; whnf) Try.underlying36 (by (repeat first | exact LMem.head _ _ | apply LMem.tail))) ?_
  refine TO.p (DP.lss rfl rfl) ?_
  refine TO.nil ?_
  refine TQ.nn ?_
  refine T.condD rfl (fun hc0 => ?_) (fun hc0 => ?_)
  · obtain ⟨s, hs⟩ := get_some (l := ss) (i := i) (by omega)
    have hat := spans_at hs
    have hln := spans_ln hs
    have hsb := hb s (mem_of_get hs)
    have hnxt : ¬ (s.1 ≤ k ∧ k < s.1 + s.2) → ∀ s ∈ ss.take (i + 1), ¬ (s.1 ≤ k ∧ k < s.1 + s.2) := fun hn y hy => by
      rw [List.take_add_one, hs] at hy
      rcases List.mem_append.1 hy with h | h
      · exact hI.2 y h
      · obtain rfl : y = s := by simpa using h
        exact hn
    refine T.skip ?_
    refine TQ.nn ?_
    refine T.seq ?_
    refine T.block ?_
    refine T.seq ?_
    refine T.drawL [] mixed (by repeat first | exact Calm.rt | apply Calm.t | apply Calm.b | apply Calm.l | apply Calm.ct) ?_
    refine TR.p 0 rfl (by kernel_rfl) (DP.mv (by conv => lhs; whnf)) ?_
    refine TR.p 1 rfl (by kernel_rfl) (DP.mv (by conv => lhs; whnf)) ?_
    refine TR.p 2 rfl (by kernel_rfl) (DP.mv (by conv => lhs; whnf)) ?_
    refine TR.d 3 rfl (by kernel_rfl) (by kernel_rfl) (by (refine Ent.imp ?_; repeat first | exact Imp.refl _ | exact Imp.nil _ | (apply Imp.pull; focus ((repeat first | exact Del.head _ _ | apply Del.tail); done)) | (apply Imp.row; focus ((repeat first | exact Del.head _ _ | apply Del.tail); done)) | apply Imp.drop)) (D.iasO (by conv => lhs; whnf) rfl Try.underlying36 sz42 (by (repeat first | exact LMem.head _ _ | apply LMem.tail)) (by omega)) ?_
    refine TR.d 4 rfl (by kernel_rfl) (by kernel_rfl) (by (refine Ent.imp ?_; repeat first | exact Imp.refl _ | exact Imp.nil _ | (apply Imp.pull; focus ((repeat first | exact Del.head _ _ | apply Del.tail); done)) | (apply Imp.row; focus ((repeat first | exact Del.head _ _ | apply Del.tail); done)) | apply Imp.drop)) (D.faO 0 (by conv => lhs; whnf) Try.underlying42 rfl rfl sz30 (by (repeat first | exact LMem.head _ _ | apply LMem.tail)) (by omega)) ?_
    refine TR.d 5 rfl (by kernel_rfl) (by kernel_rfl) (by (refine Ent.imp ?_; repeat first | exact Imp.refl _ | exact Imp.nil _ | (apply Imp.pull; focus ((repeat first | exact Del.head _ _ | apply Del.tail); done)) | (apply Imp.row; focus ((repeat first | exact Del.head _ _ | apply Del.tail); done)) | apply Imp.drop)) (D.ldOF (by conv => lhs; whnf) pl30 (by (repeat first | exact LMem.head _ _ | apply LMem.tail)) hat (by omega)) ?_
    refine TR.p 6 rfl (by kernel_rfl) (DP.cv rfl is30 Try.underlying3 (l := 9223372036854775808) rfl (by omega)) ?_
    refine TR.p 7 rfl (by kernel_rfl) (DP.geq rfl rfl) ?_
    refine TR.pB 8 rfl (by kernel_rfl) (DP.mv (by conv => lhs; whnf)) (fun hg20 => ?_) (fun hg20 => ?_)
    · refine TR.pon 9 rfl (by kernel_rfl) rfl (DP.mv (by conv => lhs; whnf)) ?_
      refine TR.pon 10 rfl (by kernel_rfl) rfl (DP.mv (by conv => lhs; whnf)) ?_
      refine TR.pon 11 rfl (by kernel_rfl) rfl (DP.mv (by conv => lhs; whnf)) ?_
      refine TR.don 12 rfl (by kernel_rfl) (by kernel_rfl) (by (refine Ent.imp ?_; repeat first | exact Imp.refl _ | exact Imp.nil _ | (apply Imp.pull; focus ((repeat first | exact Del.head _ _ | apply Del.tail); done)) | (apply Imp.row; focus ((repeat first | exact Del.head _ _ | apply Del.tail); done)) | apply Imp.drop)) rfl (D.iasO (by conv => lhs; whnf) rfl Try.underlying36 sz42 (by (repeat first | exact LMem.head _ _ | apply LMem.tail)) (by omega)) ?_
      refine TR.don 13 rfl (by kernel_rfl) (by kernel_rfl) (by (refine Ent.imp ?_; repeat first | exact Imp.refl _ | exact Imp.nil _ | (apply Imp.pull; focus ((repeat first | exact Del.head _ _ | apply Del.tail); done)) | (apply Imp.row; focus ((repeat first | exact Del.head _ _ | apply Del.tail); done)) | apply Imp.drop)) rfl (D.faO 0 (by conv => lhs; whnf) Try.underlying42 rfl rfl sz30 (by (repeat first | exact LMem.head _ _ | apply LMem.tail)) (by omega)) ?_
      refine TR.don 14 rfl (by kernel_rfl) (by kernel_rfl) (by (refine Ent.imp ?_; repeat first | exact Imp.refl _ | exact Imp.nil _ | (apply Imp.pull; focus ((repeat first | exact Del.head _ _ | apply Del.tail); done)) | (apply Imp.row; focus ((repeat first | exact Del.head _ _ | apply Del.tail); done)) | apply Imp.drop)) rfl (D.ldOF (by conv => lhs; whnf) pl30 (by (repeat first | exact LMem.head _ _ | apply LMem.tail)) hat (by omega)) ?_
      refine TR.pon 15 rfl (by kernel_rfl) rfl (DP.cv rfl is30 Try.underlying3 (l := 9223372036854775808) rfl (by omega)) ?_
      refine TR.pon 16 rfl (by kernel_rfl) rfl (DP.mv (by conv => lhs; whnf)) ?_
      refine TR.pon 17 rfl (by kernel_rfl) rfl (DP.mv (by conv => lhs; whnf)) ?_
      refine TR.don 18 rfl (by kernel_rfl) (by kernel_rfl) (by (refine Ent.imp ?_; repeat first | exact Imp.refl _ | exact Imp.nil _ | (apply Imp.pull; focus ((repeat first | exact Del.head _ _ | apply Del.tail); done)) | (apply Imp.row; focus ((repeat first | exact Del.head _ _ | apply Del.tail); done)) | apply Imp.drop)) rfl (D.iasO (by conv => lhs; whnf) rfl Try.underlying36 sz42 (by (repeat first | exact LMem.head _ _ | apply LMem.tail)) (by omega)) ?_
      refine TR.don 19 rfl (by kernel_rfl) (by kernel_rfl) (by (refine Ent.imp ?_; repeat first | exact Imp.refl _ | exact Imp.nil _ | (apply Imp.pull; focus ((repeat first | exact Del.head _ _ | apply Del.tail); done)) | (apply Imp.row; focus ((repeat first | exact Del.head _ _ | apply Del.tail); done)) | apply Imp.drop)) rfl (D.faO 1 (by conv => lhs; whnf) Try.underlying42 rfl rfl sz30 (by (repeat first | exact LMem.head _ _ | apply LMem.tail)) (by omega)) ?_
      refine TR.don 20 rfl (by kernel_rfl) (by kernel_rfl) (by (refine Ent.imp ?_; repeat first | exact Imp.refl _ | exact Imp.nil _ | (apply Imp.pull; focus ((repeat first | exact Del.head _ _ | apply Del.tail); done)) | (apply Imp.row; focus ((repeat first | exact Del.head _ _ | apply Del.tail); done)) | apply Imp.drop)) rfl (D.ldOF (by conv => lhs; whnf) pl30 (by (repeat first | exact LMem.head _ _ | apply LMem.tail)) hln (by omega)) ?_
      refine TR.pon 21 rfl (by kernel_rfl) rfl (DP.cv rfl is30 Try.underlying3 (l := 9223372036854775808) rfl (by omega)) ?_
      refine TR.pon 22 rfl (by kernel_rfl) rfl (DP.add rfl rfl (l := 9223372036854775808) rfl (by omega)) ?_
      refine TR.pon 23 rfl (by kernel_rfl) rfl (DP.lss rfl rfl) ?_
      refine TR.p 24 rfl (by kernel_rfl) (DP.pkT rfl (by conv => lhs; whnf)) ?_
      refine TR.done (by kernel_rfl) ?_
      refine TQ.nn ?_
      refine T.condD rfl (fun hc1 => ?_) (fun hc1 => ?_)
      · refine T.seq ?_
        refine T.reg ?_
        refine TO.p (DP.as (by conv => lhs; whnf)) ?_
        refine TO.nil ?_
        refine TQ.nn ?_
        refine T.ret ?_
        refine TQ.br ?_
        refine TQ.nr ?_
        refine TQ.lr ?_
        refine TQ.br ?_
        refine TQ.nr ?_
        refine TQ.ret (vs := [.bool true]) (L' := [_]) rfl ⟨rfl, rfl⟩ ⟨by rw [show decide (inS ss k) = true from decide_eq_true ⟨s, mem_of_get hs, hg20, hc1⟩]; rfl, rfl⟩ (by (refine Ent.imp ?_; repeat first | exact Imp.refl _ | exact Imp.nil _ | (apply Imp.pull; focus ((repeat first | exact Del.head _ _ | apply Del.tail); done)) | (apply Imp.row; focus ((repeat first | exact Del.head _ _ | apply Del.tail); done)) | apply Imp.drop))
      · have hnx := hnxt (fun hh => hc1 hh.2)
        refine T.skip ?_
        refine TQ.bn ?_
        refine TQ.nn ?_
        refine T.reg ?_
        refine TO.p (DP.mv (by conv => lhs; whnf)) ?_
        refine TO.p (DP.add (b := 1) rfl rfl (l := 9223372036854775808) rfl (by omega)) ?_
        refine TO.p (DP.as (by conv => lhs; whnf)) ?_
        refine TO.nil ?_
        refine TQ.round (i + 1) rfl ?_ ?_ ?_ ?_
        · (repeat first | exact trivial | refine ⟨rfl, ?_⟩)
        · exact ⟨by omega, hnx⟩
        · omega
        · exact Ent.refl _ _
    · refine TR.off 9 rfl (by kernel_rfl) rfl rfl ?_
      refine TR.off 10 rfl (by kernel_rfl) rfl rfl ?_
      refine TR.off 11 rfl (by kernel_rfl) rfl rfl ?_
      refine TR.off 12 rfl (by kernel_rfl) rfl rfl ?_
      refine TR.off 13 rfl (by kernel_rfl) rfl rfl ?_
      refine TR.off 14 rfl (by kernel_rfl) rfl rfl ?_
      refine TR.off 15 rfl (by kernel_rfl) rfl rfl ?_
      refine TR.off 16 rfl (by kernel_rfl) rfl rfl ?_
      refine TR.off 17 rfl (by kernel_rfl) rfl rfl ?_
      refine TR.off 18 rfl (by kernel_rfl) rfl rfl ?_
      refine TR.off 19 rfl (by kernel_rfl) rfl rfl ?_
      refine TR.off 20 rfl (by kernel_rfl) rfl rfl ?_
      refine TR.off 21 rfl (by kernel_rfl) rfl rfl ?_
      refine TR.off 22 rfl (by kernel_rfl) rfl rfl ?_
      refine TR.off 23 rfl (by kernel_rfl) rfl rfl ?_
      refine TR.p 24 rfl (by kernel_rfl) (DP.pkF rfl (by conv => lhs; whnf)) ?_
      refine TR.done (by kernel_rfl) ?_
      refine TQ.nn ?_
      refine T.condF rfl ?_
      have hnx := hnxt (fun hh => hg20 hh.1)
      refine T.skip ?_
      refine TQ.bn ?_
      refine TQ.nn ?_
      refine T.reg ?_
      refine TO.p (DP.mv (by conv => lhs; whnf)) ?_
      refine TO.p (DP.add (b := 1) rfl rfl (l := 9223372036854775808) rfl (by omega)) ?_
      refine TO.p (DP.as (by conv => lhs; whnf)) ?_
      refine TO.nil ?_
      refine TQ.round (i + 1) rfl ?_ ?_ ?_ ?_
      · (repeat first | exact trivial | refine ⟨rfl, ?_⟩)
      · exact ⟨by omega, hnx⟩
      · omega
      · exact Ent.refl _ _
  · obtain rfl : i = ss.length := by omega
    have hno := hI.2
    rw [List.take_length] at hno
    refine T.exit ?_
    refine TQ.ne ?_
    refine TQ.le ?_
    refine TQ.be ?_
    refine TQ.nn ?_
    refine T.seq ?_
    refine T.reg ?_
    refine TO.p (DP.as (by conv => lhs; whnf)) ?_
    refine TO.nil ?_
    refine TQ.nn ?_
    refine T.ret ?_
    refine TQ.ret (vs := [.bool false]) (L' := [_]) rfl ⟨rfl, rfl⟩ ⟨by rw [show decide (inS ss k) = false from decide_eq_false (fun ⟨s, h1, h2, h3⟩ => hno s h1 ⟨h2, h3⟩)]; rfl, rfl⟩ (by (refine Ent.imp ?_; repeat first | exact Imp.refl _ | exact Imp.nil _ | (apply Imp.pull; focus ((repeat first | exact Del.head _ _ | apply Del.tail); done)) | (apply Imp.row; focus ((repeat first | exact Del.head _ _ | apply Del.tail); done)) | apply Imp.drop))
end Go.Proofs.Ytpidkdkbgjnhlaa
