/- Lemmas for the proofs of this seat: no statement of the seat is claimed here. -/
import Derived.Test.YtbandaebilkkkaaDoorTy
set_option linter.all false
namespace Go.Proofs.YtbandaebilkkkaaDoor
open Go Pw
set_option maxRecDepth 20000
set_option maxHeartbeats 4000000
theorem ag40 : aggT Tryd.prog 40 = true := by kernel_rfl
theorem by40 : Tryd.prog.bytesOf 40 = 32 := by kernel_rfl
theorem is3 : (Tryd.prog.underlying 3).isSome = true := by kernel_rfl
theorem is78 : (Tryd.prog.underlying 78).isSome = true := by kernel_rfl
theorem pl26 : plainT Tryd.prog 26 = true := by kernel_rfl
theorem pl31 : plainT Tryd.prog 31 = true := by kernel_rfl
theorem sz26 : Tryd.prog.cellsOf 26 = 0 + 1 := by kernel_rfl
theorem sz31 : Tryd.prog.cellsOf 31 = 0 + 1 := by kernel_rfl
theorem sz32 : Tryd.prog.cellsOf 32 = 0 + 1 := by kernel_rfl
theorem sz40 : Tryd.prog.cellsOf 40 = 2 + 1 := by kernel_rfl
theorem zr40 : Tryd.prog.zeroOf 40 = some (.agg #[.int .u32 0, .string ⟨#[]⟩, .int .u64 0]) := by kernel_rfl

structure Nr where
  a : Nat
  m : List UInt8
  u : Nat
deriving DecidableEq
def nearV (s : Nr) : List Value := [.int .u32 s.a, str s.m, .int .u64 s.u]
theorem nearV_len (s : Nr) : (nearV s).length = 3 := rfl
theorem nearV_one (s : Nr) : ∀ u ∈ nearV s, u.oneCell' = true := by intro u hu; simp [nearV] at hu; rcases hu with rfl | rfl | rfl <;> rfl
structure Nr.ok (s : Nr) : Prop where
  a : s.a < 4294967296
  u : s.u < 18446744073709551616
theorem nr_clone_nil  :
    Sat Tryd.prog 37 [.slice none 0 0] [] (fun u L' => u = .slice none 0 0 ∧ L' = []) := by
  refine Sat.enter Tryd.func37 rfl Tryd.ntmps37 rfl (fun c R => ?_)
  try simp only [List.cons_append, List.nil_append]
  refine T.seq ?_
  refine T.reg ?_
  refine TO.p (DP.as (by conv => lhs; whnf)) ?_
  refine TO.nil ?_
  refine TQ.nn ?_
  refine T.seq ?_
  refine T.seq ?_
  refine T.reg ?_
  refine TO.p (DP.mv (by conv => lhs; whnf)) ?_
  refine TO.p (DP.seqN rfl rfl Tryd.underlying32) ?_
  refine TO.nil ?_
  refine TQ.nn ?_
  refine T.condT rfl ?_
  refine T.seq ?_
  refine T.reg ?_
  refine TO.p (DP.as (by conv => lhs; whnf)) ?_
  refine TO.nil ?_
  refine TQ.nn ?_
  refine T.ret ?_
  refine TQ.nr ?_
  refine TQ.ret (vs := [.slice none 0 0]) (L' := []) rfl ⟨rfl, rfl⟩ ⟨rfl, rfl⟩ (by (refine Ent.imp ?_; repeat first | exact Imp.refl _ | exact Imp.nil _ | (apply Imp.pull; focus ((repeat first | exact Del.head _ _ | apply Del.tail); done)) | (apply Imp.row; focus ((repeat first | exact Del.head _ _ | apply Del.tail); done)) | apply Imp.drop))

theorem nr_clone_row (b n k : Nat) (xs rest : List Value) (hxl : xs.length = n * 3) (hone : ∀ u ∈ xs, u.oneCell' = true) (hn : n ≤ 1048576) :
    Sat Tryd.prog 37 [.slice (some ⟨b, 0, none⟩) n (n + k)] [row 40 b (xs ++ rest)] (fun u L' => L' = [row 40 b (xs ++ rest), sl 40 3 u n xs]) := by
  refine Sat.enter Tryd.func37 rfl Tryd.ntmps37 rfl (fun c R => ?_)
  try simp only [List.cons_append, List.nil_append]
  refine T.seq ?_
  refine T.reg ?_
  refine TO.p (DP.as (by conv => lhs; whnf)) ?_
  refine TO.nil ?_
  refine TQ.nn ?_
  refine T.seq ?_
  refine T.seq ?_
  refine T.reg ?_
  refine TO.p (DP.mv (by conv => lhs; whnf)) ?_
  refine TO.p (DP.seqN rfl rfl Tryd.underlying32) ?_
  refine TO.nil ?_
  refine TQ.nn ?_
  refine T.condF rfl ?_
  refine T.skip ?_
  refine TQ.nn ?_
  refine T.seq ?_
  refine T.reg ?_
  refine TO.n (N.bsL (len := 0) (vs := []) (us := []) trivial Tryd.underlying32 sz40 zr40 rfl (by omega) rfl) ?_
  rintro _ _ ⟨b5, rfl, rfl⟩
  refine TO.ent (Ent.slP (n := 0) (sz := 3) (cs := []) rfl) ?_
  refine TO.p (DP.mv (by conv => lhs; whnf)) ?_
  refine TO.n (N.app rfl rfl Tryd.underlying32 sz40 by40 zr40 rfl rfl (by (repeat first | exact Del.head _ _ | apply Del.tail)) (Src.sl (news := xs) Tryd.underlying32 hxl (by (repeat first | exact LMem.head _ _ | apply LMem.tail)) (ReadsN.row (fun i v hv => by rw [Nat.zero_add, List.getElem?_append_left (by rcases Nat.lt_or_ge i xs.length with h | h; exact h; rw [List.getElem?_eq_none h] at hv; cases hv)]; exact hv))) (by intro u hu; exact hone u hu) (by omega)) ?_
  rintro v7 _ rfl
  refine TO.p (DP.as (by conv => lhs; whnf)) ?_
  refine TO.nil ?_
  refine TQ.nn ?_
  refine T.ret ?_
  simp only [List.nil_append, Nat.zero_add]
  refine TQ.ret (vs := [v7]) (L' := [_, _]) rfl ⟨rfl, rfl⟩ rfl (by (refine Ent.imp ?_; repeat first | exact Imp.refl _ | exact Imp.nil _ | (apply Imp.pull; focus ((repeat first | exact Del.head _ _ | apply Del.tail); done)) | (apply Imp.row; focus ((repeat first | exact Del.head _ _ | apply Del.tail); done)) | apply Imp.drop))

theorem nr_clone_spec (n : Nat) (v : Value) (xs : List Value) (hone : ∀ u ∈ xs, u.oneCell' = true) (hn : n ≤ 1048576) :
    Sat Tryd.prog 37 [v] [sl 40 3 v n xs] (fun u L' => L' = [sl 40 3 v n xs, sl 40 3 u n xs]) := by
  refine Sat.open_sl ?_ ?_
  · rintro rfl rfl rfl
    refine nr_clone_nil.post ?_
    rintro v L' ⟨rfl, rfl⟩
    exact ⟨_, Imp.slN (Imp.slN (Imp.refl _)), rfl⟩
  · rintro b k rest rfl hx hr
    refine (nr_clone_row b n k xs rest hx hone hn).post ?_
    rintro v L' rfl
    exact ⟨_, Imp.sl (Del.head _ _) hx hr (Imp.refl _), rfl⟩

theorem nr_ins_nil (vb : Nat) (ns : List Value) (hns : ns.length = 3) (hno : ∀ u ∈ ns, u.oneCell' = true) :
    Sat Tryd.prog 36 [.slice none 0 0, .int .i64 (0 : Nat), .slice (some ⟨vb, 0, none⟩) 1 1] [pt vb (.cells ns.toArray 40 (0, 0))] (fun u L' => L' = [sl 40 3 u 1 ns]) := by
  refine Sat.enter Tryd.func36 rfl Tryd.ntmps36 rfl (fun c R => ?_)
  try simp only [List.cons_append, List.nil_append]
  refine T.seq ?_
  refine T.reg ?_
  refine TO.p (DP.as (by conv => lhs; whnf)) ?_
  refine TO.nil ?_
  refine TQ.nn ?_
  refine T.seq ?_
  refine T.reg ?_
  refine TO.p (DP.mv (by conv => lhs; whnf)) ?_
  refine TO.p (DP.mv (by conv => lhs; whnf)) ?_
  refine TO.p (DP.slSl0 rfl rfl Tryd.underlying32 sz40) ?_
  refine TO.nil ?_
  refine TQ.nn ?_
  refine T.seq ?_
  refine T.reg ?_
  refine TO.p (DP.mv (by conv => lhs; whnf)) ?_
  refine TO.p (DP.lenS rfl Tryd.underlying32) ?_
  refine TO.p (DP.as (by conv => lhs; whnf)) ?_
  refine TO.nil ?_
  refine TQ.nn ?_
  refine T.seq ?_
  refine T.seq ?_
  refine T.reg ?_
  refine TO.p (DP.mv (by conv => lhs; whnf)) ?_
  refine TO.p (DP.eql (a := 1) (b := 0) rfl rfl) ?_
  refine TO.nil ?_
  refine TQ.nn ?_
  refine T.condD rfl (fun hc0 => ?_) (fun hc0 => ?_)
  · exact absurd hc0 (by decide)
  · refine T.skip ?_
    refine TQ.nn ?_
    refine T.seq ?_
    refine T.reg ?_
    refine TO.p (DP.mv (by conv => lhs; whnf)) ?_
    refine TO.p (DP.lenS rfl Tryd.underlying32) ?_
    refine TO.p (DP.as (by conv => lhs; whnf)) ?_
    refine TO.nil ?_
    refine TQ.nn ?_
    refine T.seq ?_
    refine T.seq ?_
    refine T.reg ?_
    refine TO.p (DP.mv (by conv => lhs; whnf)) ?_
    refine TO.p (DP.mv (by conv => lhs; whnf)) ?_
    refine TO.p (DP.eql (a := 0) (b := 0) rfl rfl) ?_
    refine TO.nil ?_
    refine TQ.nn ?_
    refine T.condD rfl (fun hc1 => ?_) (fun hc1 => ?_)
    · refine T.seq ?_
      refine T.ent (Ent.nil (e := 40) (sz := 3)) ?_
      refine T.reg ?_
      refine TO.p (DP.mv (by conv => lhs; whnf)) ?_
      refine TO.p (DP.mv (by conv => lhs; whnf)) ?_
      refine TO.n (N.app rfl rfl Tryd.underlying32 sz40 by40 zr40 rfl rfl (by (repeat first | exact Del.head _ _ | apply Del.tail)) (Src.sl (news := ns) Tryd.underlying32 (by rw [hns]) (by (repeat first | exact LMem.head _ _ | apply LMem.tail)) (ReadsN.cells (fun i v hv => by simpa using hv))) (by intro u hu; exact hno u hu) (by omega)) ?_
      rintro v25 _ rfl
      refine TO.p (DP.as (by conv => lhs; whnf)) ?_
      refine TO.nil ?_
      refine TQ.nn ?_
      refine T.ret ?_
      refine TQ.nr ?_
      refine TQ.ret (vs := [v25]) (L' := [_]) rfl ⟨rfl, rfl⟩ rfl (by (refine Ent.imp ?_; repeat first | exact Imp.refl _ | exact Imp.nil _ | (apply Imp.pull; focus ((repeat first | exact Del.head _ _ | apply Del.tail); done)) | (apply Imp.row; focus ((repeat first | exact Del.head _ _ | apply Del.tail); done)) | apply Imp.drop))
    · exact absurd rfl hc1

theorem nr_ins_end (b n k vb : Nat) (xs rest : List Value) (ns : List Value) (hns : ns.length = 3) (hno : ∀ u ∈ ns, u.oneCell' = true) (hn : n ≤ 1048576) (hx : xs.length = n * 3) (hr : rest.length = k * 3) :
    Sat Tryd.prog 36 [.slice (some ⟨b, 0, none⟩) n (n + k), .int .i64 n, .slice (some ⟨vb, 0, none⟩) 1 1] [row 40 b (xs ++ rest), pt vb (.cells ns.toArray 40 (0, 0))] (fun u L' => L' = [sl 40 3 u (n + 1) (xs ++ ns)]) := by
  refine Sat.enter Tryd.func36 rfl Tryd.ntmps36 rfl (fun c R => ?_)
  try simp only [List.cons_append, List.nil_append]
  refine T.seq ?_
  refine T.reg ?_
  refine TO.p (DP.as (by conv => lhs; whnf)) ?_
  refine TO.nil ?_
  refine TQ.nn ?_
  refine T.seq ?_
  refine T.reg ?_
  refine TO.p (DP.mv (by conv => lhs; whnf)) ?_
  refine TO.p (DP.mv (by conv => lhs; whnf)) ?_
  refine TO.p (DP.slSl rfl rfl Tryd.underlying32 sz40 (by omega)) ?_
  refine TO.nil ?_
  refine TQ.nn ?_
  refine T.seq ?_
  refine T.reg ?_
  refine TO.p (DP.mv (by conv => lhs; whnf)) ?_
  refine TO.p (DP.lenS rfl Tryd.underlying32) ?_
  refine TO.p (DP.as (by conv => lhs; whnf)) ?_
  refine TO.nil ?_
  refine TQ.nn ?_
  refine T.seq ?_
  refine T.seq ?_
  refine T.reg ?_
  refine TO.p (DP.mv (by conv => lhs; whnf)) ?_
  refine TO.p (DP.eql (a := 1) (b := 0) rfl rfl) ?_
  refine TO.nil ?_
  refine TQ.nn ?_
  refine T.condD rfl (fun hc0 => ?_) (fun hc0 => ?_)
  · exact absurd hc0 (by decide)
  · refine T.skip ?_
    refine TQ.nn ?_
    refine T.seq ?_
    refine T.reg ?_
    refine TO.p (DP.mv (by conv => lhs; whnf)) ?_
    refine TO.p (DP.lenS rfl Tryd.underlying32) ?_
    refine TO.p (DP.as (by conv => lhs; whnf)) ?_
    refine TO.nil ?_
    refine TQ.nn ?_
    refine T.seq ?_
    refine T.seq ?_
    refine T.reg ?_
    refine TO.p (DP.mv (by conv => lhs; whnf)) ?_
    refine TO.p (DP.mv (by conv => lhs; whnf)) ?_
    refine TO.p ((by first | exact DP.eql rfl rfl | exact DP.eqlI rfl rfl)) ?_
    refine TO.nil ?_
    refine TQ.nn ?_
    refine T.condD rfl (fun hc1 => ?_) (fun hc1 => ?_)
    · refine T.seq ?_
      refine T.ent (Ent.imp (Imp.sl (k := k) (Del.head _ _) hx hr (Imp.refl _))) ?_
      refine T.reg ?_
      refine TO.p (DP.mv (by conv => lhs; whnf)) ?_
      refine TO.p (DP.mv (by conv => lhs; whnf)) ?_
      refine TO.n (N.app rfl rfl Tryd.underlying32 sz40 by40 zr40 rfl rfl (by (repeat first | exact Del.head _ _ | apply Del.tail)) (Src.sl (news := ns) Tryd.underlying32 (by rw [hns]) (by (repeat first | exact LMem.head _ _ | apply LMem.tail)) (ReadsN.cells (fun i v hv => by simpa using hv))) (by intro u hu; exact hno u hu) (by omega)) ?_
      rintro v25 _ rfl
      refine TO.p (DP.as (by conv => lhs; whnf)) ?_
      refine TO.nil ?_
      refine TQ.nn ?_
      refine T.ret ?_
      refine TQ.nr ?_
      refine TQ.ret (vs := [v25]) (L' := [_]) rfl ⟨rfl, rfl⟩ rfl (by (refine Ent.imp ?_; repeat first | exact Imp.refl _ | exact Imp.nil _ | (apply Imp.pull; focus ((repeat first | exact Del.head _ _ | apply Del.tail); done)) | (apply Imp.row; focus ((repeat first | exact Del.head _ _ | apply Del.tail); done)) | apply Imp.drop))
    · exact absurd rfl hc1

theorem nr_ins_room (b n k i vb : Nat) (X Y rest : List Value) (ns : List Value) (hns : ns.length = 3) (hno : ∀ u ∈ ns, u.oneCell' = true) (hn : n ≤ 1048576) (hi : i < n) (hX : X.length = i * 3) (hY : Y.length = (n - i) * 3) (hr : rest.length = k * 3) (honeY : ∀ u ∈ Y, u.oneCell' = true) (hk : 1 ≤ k) :
    Sat Tryd.prog 36 [.slice (some ⟨b, 0, none⟩) n (n + k), .int .i64 i, .slice (some ⟨vb, 0, none⟩) 1 1] [row 40 b (X ++ Y ++ rest), pt vb (.cells ns.toArray 40 (0, 0))] (fun u L' => u = .slice (some ⟨b, 0, none⟩) (n + 1) (n + 1 + (k - 1)) ∧ L' = [row 40 b (X ++ ns ++ Y ++ rest.drop 3)]) := by
  refine Sat.enter Tryd.func36 rfl Tryd.ntmps36 rfl (fun c R => ?_)
  try simp only [List.cons_append, List.nil_append]
  refine T.seq ?_
  refine T.reg ?_
  refine TO.p (DP.as (by conv => lhs; whnf)) ?_
  refine TO.nil ?_
  refine TQ.nn ?_
  refine T.seq ?_
  refine T.reg ?_
  refine TO.p (DP.mv (by conv => lhs; whnf)) ?_
  refine TO.p (DP.mv (by conv => lhs; whnf)) ?_
  refine TO.p (DP.slSl rfl rfl Tryd.underlying32 sz40 (by omega)) ?_
  refine TO.nil ?_
  refine TQ.nn ?_
  refine T.seq ?_
  refine T.reg ?_
  refine TO.p (DP.mv (by conv => lhs; whnf)) ?_
  refine TO.p (DP.lenS rfl Tryd.underlying32) ?_
  refine TO.p (DP.as (by conv => lhs; whnf)) ?_
  refine TO.nil ?_
  refine TQ.nn ?_
  refine T.seq ?_
  refine T.seq ?_
  refine T.reg ?_
  refine TO.p (DP.mv (by conv => lhs; whnf)) ?_
  refine TO.p (DP.eql (a := 1) (b := 0) rfl rfl) ?_
  refine TO.nil ?_
  refine TQ.nn ?_
  refine T.condD rfl (fun hc0 => ?_) (fun hc0 => ?_)
  · exact absurd hc0 (by decide)
  · refine T.skip ?_
    refine TQ.nn ?_
    refine T.seq ?_
    refine T.reg ?_
    refine TO.p (DP.mv (by conv => lhs; whnf)) ?_
    refine TO.p (DP.lenS rfl Tryd.underlying32) ?_
    refine TO.p (DP.as (by conv => lhs; whnf)) ?_
    refine TO.nil ?_
    refine TQ.nn ?_
    refine T.seq ?_
    refine T.seq ?_
    refine T.reg ?_
    refine TO.p (DP.mv (by conv => lhs; whnf)) ?_
    refine TO.p (DP.mv (by conv => lhs; whnf)) ?_
    refine TO.p ((by first | exact DP.eql rfl rfl | exact DP.eqlI rfl rfl)) ?_
    refine TO.nil ?_
    refine TQ.nn ?_
    refine T.condD rfl (fun hc1 => ?_) (fun hc1 => ?_)
    · exact absurd hc1 (by omega)
    · refine T.skip ?_
      refine TQ.nn ?_
      refine T.seq ?_
      refine T.seq ?_
      refine T.reg ?_
      refine TO.p (DP.mv (by conv => lhs; whnf)) ?_
      refine TO.p (DP.mv (by conv => lhs; whnf)) ?_
      refine TO.p ((by first | exact DP.add rfl rfl (l := 9223372036854775808) rfl (by omega) | exact DP.addX rfl rfl)) ?_
      refine TO.p (DP.mv (by conv => lhs; whnf)) ?_
      refine TO.p (DP.capS rfl Tryd.underlying32) ?_
      refine TO.p ((by first | exact DP.gtr rfl rfl | exact DP.gtrI rfl rfl)) ?_
      refine TO.nil ?_
      refine TQ.nn ?_
      refine T.condD rfl (fun hc2 => ?_) (fun hc2 => ?_)
      · exact absurd hc2 (by omega)
      · refine T.skip ?_
        refine TQ.nn ?_
        refine T.seq ?_
        refine T.reg ?_
        refine TO.p (DP.mv (by conv => lhs; whnf)) ?_
        refine TO.p (DP.mv (by conv => lhs; whnf)) ?_
        refine TO.p (DP.mv (by conv => lhs; whnf)) ?_
        refine TO.p ((by first | exact DP.add rfl rfl (l := 9223372036854775808) rfl (by omega) | exact DP.addX rfl rfl)) ?_
        refine TO.p (DP.slSh rfl rfl Tryd.underlying32 sz40 (by omega)) ?_
        refine TO.p (DP.as (by conv => lhs; whnf)) ?_
        refine TO.nil ?_
        refine TQ.nn ?_
        refine T.seq ?_
        refine T.seq ?_
        refine T.reg ?_
        refine TO.p (DP.mv (by conv => lhs; whnf)) ?_
        refine TO.p (DP.mv (by conv => lhs; whnf)) ?_
        refine TO.p (DP.mv (by conv => lhs; whnf)) ?_
        refine TO.p (DP.mv (by conv => lhs; whnf)) ?_
        refine TO.p ((by first | exact DP.add rfl rfl (l := 9223372036854775808) rfl (by omega) | exact DP.addX rfl rfl)) ?_
        refine TO.p (DP.to (v' := .slice (some ⟨b, (i + 1) * 3, none⟩) (n + 1 - (i + 1)) (n + k - (i + 1))) (DP.slSl rfl rfl Tryd.underlying32 sz40 (by omega)) (by rw [if_neg (by omega)]; simp)) ?_
        refine TO.d (D.ovl (tR := 4) rfl rfl Tryd.func54 (by kernel_rfl) (by kernel_rfl) (by kernel_rfl) (by kernel_rfl) Tryd.underlying32 sz40 (.cons (.tail (.head _ _)) (.cons (.head _ _) (.nil _))) (by intro h; have h2 := congrArg List.length h; simp only [List.length_append, List.length_nil] at h2; omega)) ?_
        refine TO.p (DP.not (b := false) rfl) ?_
        refine TO.nil ?_
        refine TQ.nn ?_
        refine T.condT rfl ?_
        refine T.seq ?_
        have hcpY : (((X ++ Y ++ rest).drop (i * 3)).take ((n + 1 - i) * 3)).take ((n - i) * (2 + 1)) = Y := by
          rw [List.take_take, Nat.min_eq_left (by omega), List.append_assoc, ← hX, List.drop_left, show (n - i) * (2 + 1) = Y.length by omega, List.take_left]
        refine T.drawL [8] mixed (by repeat first | exact Calm.rt | apply Calm.t | apply Calm.b | apply Calm.l | apply Calm.ct) ?_
        refine TR.p 0 rfl (by kernel_rfl) (DP.mv (by conv => lhs; whnf)) ?_
        refine TR.p 1 rfl (by kernel_rfl) (DP.mv (by conv => lhs; whnf)) ?_
        refine TR.p 2 rfl (by kernel_rfl) (DP.mv (by conv => lhs; whnf)) ?_
        refine TR.p 3 rfl (by kernel_rfl) ((by first | exact DP.add rfl rfl (l := 9223372036854775808) rfl (by omega) | exact DP.addX rfl rfl)) ?_
        refine TR.p 4 rfl (by kernel_rfl) (DP.to (v' := .slice (some ⟨b, (i + 1) * 3, none⟩) (n + 1 - (i + 1)) (n + k - (i + 1))) (DP.slSl rfl rfl Tryd.underlying32 sz40 (by omega)) (by rw [if_neg (by omega)]; simp)) ?_
        refine TR.p 5 rfl (by kernel_rfl) (DP.mv (by conv => lhs; whnf)) ?_
        refine TR.p 6 rfl (by kernel_rfl) (DP.mv (by conv => lhs; whnf)) ?_
        refine TR.p 7 rfl (by kernel_rfl) (DP.to (v' := .slice (some ⟨b, i * 3, none⟩) (n + 1 - i) (n + k - i)) (DP.slSl rfl rfl Tryd.underlying32 sz40 (by omega)) (by rw [if_neg (by omega)]; simp)) ?_
        refine TR.n 8 (by kernel_rfl) rfl (N.cpT (news := ((X ++ Y ++ rest).drop (i * 3)).take ((n + 1 - i) * 3)) rfl rfl Tryd.underlying32 sz40 (Src.sl Tryd.underlying32 (by simp only [List.length_take, List.length_drop, List.length_append]; omega) (by (repeat first | exact LMem.head _ _ | apply LMem.tail)) (ReadsN.row drop_reads)) (by rw [show min (n + 1 - i) (n + 1 - (i + 1)) = n - i by omega, hcpY]; exact honeY) (by (repeat first | exact Put.head _ _ _ | apply Put.tail)) (by simp only [List.length_append]; omega)) ?_
        rintro _ _ ⟨rfl, rfl⟩
        refine ⟨.inl rfl, ?_⟩
        refine TR.done (by kernel_rfl) ?_
        refine TQ.nn ?_
        refine T.seq ?_
        refine T.reg ?_
        refine TO.p (DP.mv (by conv => lhs; whnf)) ?_
        refine TO.p (DP.mv (by conv => lhs; whnf)) ?_
        refine TO.p (DP.to (v' := .slice (some ⟨b, i * 3, none⟩) (n + 1 - i) (n + k - i)) (DP.slSl rfl rfl Tryd.underlying32 sz40 (by omega)) (by rw [if_neg (by omega)]; simp)) ?_
        refine TO.p (DP.mv (by conv => lhs; whnf)) ?_
        refine TO.n (N.cp rfl rfl Tryd.underlying32 sz40 (Src.sl (news := ns) Tryd.underlying32 (by rw [hns]) (by (repeat first | exact LMem.head _ _ | apply LMem.tail)) (ReadsN.cells (fun i v hv => by simpa using hv))) (by intro u hu; exact hno u hu) (by (repeat first | exact Put.head _ _ _ | apply Put.tail)) (by rw [length_setAll]; simp only [List.length_append, hns]; omega)) ?_
        rintro _ _ ⟨rfl, rfl⟩
        refine TO.nil ?_
        refine TQ.nn ?_
        refine T.seq ?_
        refine T.reg ?_
        refine TO.p (DP.mv (by conv => lhs; whnf)) ?_
        refine TO.p (DP.as (by conv => lhs; whnf)) ?_
        refine TO.nil ?_
        refine TQ.nn ?_
        refine T.ret ?_
        refine TQ.nr ?_
        refine TQ.ret (vs := [.slice (some ⟨b, 0, none⟩) (n + 1) (n + 1 + (k - 1))]) (L' := [_]) rfl ⟨by rw [show n + 1 + (k - 1) = n + k by omega]; rfl, rfl⟩ ?_ (by (refine Ent.imp ?_; repeat first | exact Imp.refl _ | exact Imp.nil _ | (apply Imp.pull; focus ((repeat first | exact Del.head _ _ | apply Del.tail); done)) | (apply Imp.row; focus ((repeat first | exact Del.head _ _ | apply Del.tail); done)) | apply Imp.drop))
        refine ⟨rfl, congrArg (fun z => [row 40 b z]) ?_⟩
        have h1 := ins_cells (X := X) (Y := Y) (r := rest) (s := ns) (by omega)
        rw [show min 1 (n + 1 - i) = 1 by omega, show min (n + 1 - i) (n + 1 - (i + 1)) = n - i by omega]
        rw [hcpY, show (i + 1) * 3 = X.length + ns.length by omega, ← hX, List.take_of_length_le (show ns.length ≤ 1 * (2 + 1) by omega)]
        rw [hns] at h1 ⊢
        exact h1

theorem nr_ins_grow (b n k i vb : Nat) (X Y rest : List Value) (ns : List Value) (hns : ns.length = 3) (hno : ∀ u ∈ ns, u.oneCell' = true) (hn : n ≤ 1048576) (hi : i < n) (hX : X.length = i * 3) (hY : Y.length = (n - i) * 3) (hr : rest.length = k * 3) (honeY : ∀ u ∈ Y, u.oneCell' = true) (hk : k = 0) :
    Sat Tryd.prog 36 [.slice (some ⟨b, 0, none⟩) n (n + k), .int .i64 i, .slice (some ⟨vb, 0, none⟩) 1 1] [row 40 b (X ++ Y ++ rest), pt vb (.cells ns.toArray 40 (0, 0))] (fun u L' => ∃ nb k rest', u = .slice (some ⟨nb, 0, none⟩) (n + 1) (n + 1 + k) ∧ rest'.length = k * 3 ∧ L' = [row 40 nb (X ++ ns ++ Y ++ rest')]) := by
  refine Sat.enter Tryd.func36 rfl Tryd.ntmps36 rfl (fun c R => ?_)
  try simp only [List.cons_append, List.nil_append]
  refine T.seq ?_
  refine T.reg ?_
  refine TO.p (DP.as (by conv => lhs; whnf)) ?_
  refine TO.nil ?_
  refine TQ.nn ?_
  refine T.seq ?_
  refine T.reg ?_
  refine TO.p (DP.mv (by conv => lhs; whnf)) ?_
  refine TO.p (DP.mv (by conv => lhs; whnf)) ?_
  refine TO.p (DP.slSl rfl rfl Tryd.underlying32 sz40 (by omega)) ?_
  refine TO.nil ?_
  refine TQ.nn ?_
  refine T.seq ?_
  refine T.reg ?_
  refine TO.p (DP.mv (by conv => lhs; whnf)) ?_
  refine TO.p (DP.lenS rfl Tryd.underlying32) ?_
  refine TO.p (DP.as (by conv => lhs; whnf)) ?_
  refine TO.nil ?_
  refine TQ.nn ?_
  refine T.seq ?_
  refine T.seq ?_
  refine T.reg ?_
  refine TO.p (DP.mv (by conv => lhs; whnf)) ?_
  refine TO.p (DP.eql (a := 1) (b := 0) rfl rfl) ?_
  refine TO.nil ?_
  refine TQ.nn ?_
  refine T.condD rfl (fun hc0 => ?_) (fun hc0 => ?_)
  · exact absurd hc0 (by decide)
  · refine T.skip ?_
    refine TQ.nn ?_
    refine T.seq ?_
    refine T.reg ?_
    refine TO.p (DP.mv (by conv => lhs; whnf)) ?_
    refine TO.p (DP.lenS rfl Tryd.underlying32) ?_
    refine TO.p (DP.as (by conv => lhs; whnf)) ?_
    refine TO.nil ?_
    refine TQ.nn ?_
    refine T.seq ?_
    refine T.seq ?_
    refine T.reg ?_
    refine TO.p (DP.mv (by conv => lhs; whnf)) ?_
    refine TO.p (DP.mv (by conv => lhs; whnf)) ?_
    refine TO.p ((by first | exact DP.eql rfl rfl | exact DP.eqlI rfl rfl)) ?_
    refine TO.nil ?_
    refine TQ.nn ?_
    refine T.condD rfl (fun hc1 => ?_) (fun hc1 => ?_)
    · exact absurd hc1 (by omega)
    · refine T.skip ?_
      refine TQ.nn ?_
      refine T.seq ?_
      refine T.seq ?_
      refine T.reg ?_
      refine TO.p (DP.mv (by conv => lhs; whnf)) ?_
      refine TO.p (DP.mv (by conv => lhs; whnf)) ?_
      refine TO.p ((by first | exact DP.add rfl rfl (l := 9223372036854775808) rfl (by omega) | exact DP.addX rfl rfl)) ?_
      refine TO.p (DP.mv (by conv => lhs; whnf)) ?_
      refine TO.p (DP.capS rfl Tryd.underlying32) ?_
      refine TO.p ((by first | exact DP.gtr rfl rfl | exact DP.gtrI rfl rfl)) ?_
      refine TO.nil ?_
      refine TQ.nn ?_
      refine T.condD rfl (fun hc2 => ?_) (fun hc2 => ?_)
      · refine T.seq ?_
        refine T.reg ?_
        refine TO.p (DP.mv (by conv => lhs; whnf)) ?_
        refine TO.p (DP.mv (by conv => lhs; whnf)) ?_
        refine TO.p (DP.slSh rfl rfl Tryd.underlying32 sz40 (by omega)) ?_
        refine TO.p (DP.mv (by conv => lhs; whnf)) ?_
        refine TO.p (DP.mv (by conv => lhs; whnf)) ?_
        refine TO.p ((by first | exact DP.add rfl rfl (l := 9223372036854775808) rfl (by omega) | exact DP.addX rfl rfl)) ?_
        refine TO.p (DP.mv (by conv => lhs; whnf)) ?_
        refine TO.p ((by first | exact DP.sub rfl rfl (l := 9223372036854775808) rfl (by omega) (by omega) | exact DP.subI rfl rfl (by simp [IntKind.fits, IntKind.lim, IntKind.signed, IntKind.bits]; omega) | exact DP.subX rfl rfl)) ?_
        refine TO.n (N.appZ (pre := X) rfl rfl Tryd.underlying32 Tryd.underlying3 sz40 by40 zr40 rfl rfl (by (repeat first | exact LMem.head _ _ | apply LMem.tail)) (ReadsN.row (fun j u hu => by rw [Nat.zero_add, List.append_assoc, List.getElem?_append_left (by rcases Nat.lt_or_ge j X.length with h | h; exact h; rw [List.getElem?_eq_none h] at hu; cases hu)]; exact hu)) hX (by omega) (by omega) (by omega)) ?_
        rintro _ _ ⟨nb, k2, rest2, rfl, hr2, rfl⟩
        rw [show i + (n + 1 - i) = n + 1 by omega]
        refine TO.p (DP.as (by conv => lhs; whnf)) ?_
        refine TO.nil ?_
        refine TQ.nn ?_
        refine T.seq ?_
        refine T.reg ?_
        refine TO.p (DP.mv (by conv => lhs; whnf)) ?_
        refine TO.p (DP.mv (by conv => lhs; whnf)) ?_
        refine TO.p (DP.to (v' := .slice (some ⟨nb, i * 3, none⟩) (n + 1 - i) (n + 1 + k2 - i)) (DP.slSl rfl rfl Tryd.underlying32 sz40 (by omega)) (by rw [if_neg (by omega)]; simp)) ?_
        refine TO.p (DP.mv (by conv => lhs; whnf)) ?_
        refine TO.n (N.cp rfl rfl Tryd.underlying32 sz40 (Src.sl (news := ns) Tryd.underlying32 (by rw [hns]) (by (repeat first | exact LMem.head _ _ | apply LMem.tail)) (ReadsN.cells (fun i v hv => by simpa using hv))) (by intro u hu; exact hno u hu) (by (repeat first | exact Put.head _ _ _ | apply Put.tail)) (by simp only [List.length_append, flatten_rep_length, List.length_cons, List.length_nil, hns]; omega)) ?_
        rintro _ _ ⟨rfl, rfl⟩
        refine TO.nil ?_
        refine TQ.nn ?_
        refine T.seq ?_
        refine T.drawL [8] mixed (by repeat first | exact Calm.rt | apply Calm.t | apply Calm.b | apply Calm.l | apply Calm.ct) ?_
        refine TR.p 0 rfl (by kernel_rfl) (DP.mv (by conv => lhs; whnf)) ?_
        refine TR.p 1 rfl (by kernel_rfl) (DP.mv (by conv => lhs; whnf)) ?_
        refine TR.p 2 rfl (by kernel_rfl) (DP.mv (by conv => lhs; whnf)) ?_
        refine TR.p 3 rfl (by kernel_rfl) ((by first | exact DP.add rfl rfl (l := 9223372036854775808) rfl (by omega) | exact DP.addX rfl rfl)) ?_
        refine TR.p 4 rfl (by kernel_rfl) (DP.to (v' := .slice (some ⟨nb, (i + 1) * 3, none⟩) (n + 1 - (i + 1)) (n + 1 + k2 - (i + 1))) (DP.slSl rfl rfl Tryd.underlying32 sz40 (by omega)) (by rw [if_neg (by omega)]; simp)) ?_
        refine TR.p 5 rfl (by kernel_rfl) (DP.mv (by conv => lhs; whnf)) ?_
        refine TR.p 6 rfl (by kernel_rfl) (DP.mv (by conv => lhs; whnf)) ?_
        refine TR.p 7 rfl (by kernel_rfl) (DP.to (v' := .slice (some ⟨b, i * 3, none⟩) (n - i) (n + k - i)) (DP.slSl rfl rfl Tryd.underlying32 sz40 (by omega)) (by rw [if_neg (by omega)]; simp)) ?_
        refine TR.n 8 (by kernel_rfl) rfl (N.cp (news := Y) rfl rfl Tryd.underlying32 sz40 (Src.sl Tryd.underlying32 hY (by (repeat first | exact LMem.head _ _ | apply LMem.tail)) (ReadsN.row (fun j u hu => by rw [List.append_assoc, List.getElem?_append_right (by omega), List.getElem?_append_left (by rcases Nat.lt_or_ge j Y.length with h | h; omega; rw [List.getElem?_eq_none h] at hu; cases hu), show i * 3 + j - X.length = j by omega]; exact hu))) honeY (by (repeat first | exact Put.head _ _ _ | apply Put.tail)) (by rw [length_setAll]; simp only [List.length_append, flatten_rep_length, List.length_cons, List.length_nil]; omega)) ?_
        rintro _ _ ⟨rfl, rfl⟩
        refine ⟨.inl rfl, ?_⟩
        refine TR.done (by kernel_rfl) ?_
        refine TQ.nn ?_
        refine T.seq ?_
        refine T.reg ?_
        refine TO.p (DP.mv (by conv => lhs; whnf)) ?_
        refine TO.p (DP.as (by conv => lhs; whnf)) ?_
        refine TO.nil ?_
        refine TQ.nn ?_
        refine T.ret ?_
        refine TQ.nr ?_
        refine TQ.ret (vs := [.slice (some ⟨nb, 0, none⟩) (n + 1) (n + 1 + k2)]) (L' := [_]) rfl ⟨rfl, rfl⟩ ?_ (by (refine Ent.imp ?_; repeat first | exact Imp.refl _ | exact Imp.nil _ | (apply Imp.pull; focus ((repeat first | exact Del.head _ _ | apply Del.tail); done)) | (apply Imp.row; focus ((repeat first | exact Del.head _ _ | apply Del.tail); done)) | apply Imp.drop))
        refine ⟨nb, k2, rest2, rfl, hr2, congrArg (fun z => [row 40 nb z]) ?_⟩
        obtain ⟨zz, hzz⟩ : ∃ zz : List Value, zz.length = ns.length + Y.length ∧ zz = (List.replicate (n + 1 - i) ([.int .u32 0, .string ⟨#[]⟩, .int .u64 0] : List Value)).flatten := ⟨_, by rw [flatten_rep_length]; simp only [List.length_cons, List.length_nil, hns]; omega, rfl⟩
        obtain ⟨hzl, hze⟩ := hzz
        rw [← hze]
        have h1 := ins_cells2 (X := X) (Y := Y) (r := rest2) (s := ns) (z := zz) hzl
        rw [show min 1 (n + 1 - i) = 1 by omega, show min (n - i) (n + 1 - (i + 1)) = n - i by omega, show (n - i) * (2 + 1) = Y.length by omega, List.take_length, show (i + 1) * 3 = X.length + ns.length by omega, ← hX, List.take_of_length_le (show ns.length ≤ 1 * (2 + 1) by omega)]
        exact h1
      · exact absurd (by omega) hc2

theorem nr_insert_cells (vb i n : Nat) (v : Value) (X Y : List Value) (ns : List Value) (hns : ns.length = 3) (hno : ∀ u ∈ ns, u.oneCell' = true) (hn : n ≤ 1048576) (hi : i ≤ n) (hX : X.length = i * 3) (hY : Y.length = (n - i) * 3) (honeY : ∀ u ∈ Y, u.oneCell' = true) :
    Sat Tryd.prog 36 [v, .int .i64 i, .slice (some ⟨vb, 0, none⟩) 1 1] [sl 40 3 v n (X ++ Y), pt vb (.cells ns.toArray 40 (0, 0))]
      (fun u L' => L' = [sl 40 3 u (n + 1) (X ++ ns ++ Y)]) := by
  refine Sat.open_sl ?_ ?_
  · rintro rfl hn0 hx
    obtain ⟨rfl, rfl⟩ := List.append_eq_nil_iff.1 hx
    subst hn0
    obtain rfl : i = 0 := by omega
    have := nr_ins_nil vb ns hns hno
    simpa using this
  · rintro b k rest rfl hx hr
    by_cases hin : i = n
    · subst hin
      obtain rfl : Y = [] := List.eq_nil_of_length_eq_zero (by omega)
      have := nr_ins_end b i k vb X rest ns hns hno hn hX hr
      simpa using this
    · by_cases hk : k = 0
      · refine (nr_ins_grow b n k i vb X Y rest ns hns hno hn (by omega) hX hY hr honeY hk).post ?_
        rintro u L' ⟨nb, k2, rest2, rfl, hr2, rfl⟩
        exact ⟨_, Imp.sl (Del.head _ _) (by simp only [List.length_append, hX, hY, hns]; omega) hr2 (Imp.refl _), rfl⟩
      · refine (nr_ins_room b n k i vb X Y rest ns hns hno hn (by omega) hX hY hr honeY (by omega)).post ?_
        rintro u L' ⟨rfl, rfl⟩
        exact ⟨_, Imp.sl (Del.head _ _) (by simp only [List.length_append, hX, hY, hns]; omega) (by rw [List.length_drop]; omega) (Imp.refl _), rfl⟩

theorem isnan (a : Nat) :
    Sat Tryd.prog 71 [.int .u32 a] [] (fun u L' => u = .bool false ∧ L' = []) := by
  refine Sat.enter Tryd.func71 rfl Tryd.ntmps71 rfl (fun c R => ?_)
  try simp only [List.cons_append, List.nil_append]
  refine T.seq ?_
  refine T.reg ?_
  refine TO.p (DP.as (by conv => lhs; whnf)) ?_
  refine TO.nil ?_
  refine TQ.nn ?_
  refine T.seq ?_
  refine T.reg ?_
  refine TO.p (DP.mv (by conv => lhs; whnf)) ?_
  refine TO.p (DP.mv (by conv => lhs; whnf)) ?_
  refine TO.p (DP.to (v' := .bool false) (DP.neq rfl rfl) (by simp)) ?_
  refine TO.p (DP.as (by conv => lhs; whnf)) ?_
  refine TO.nil ?_
  refine TQ.nn ?_
  refine T.ret ?_
  refine TQ.ret (vs := [.bool false]) (L' := []) rfl ⟨rfl, rfl⟩ ⟨rfl, rfl⟩ (by (refine Ent.imp ?_; repeat first | exact Imp.refl _ | exact Imp.nil _ | (apply Imp.pull; focus ((repeat first | exact Del.head _ _ | apply Del.tail); done)) | (apply Imp.row; focus ((repeat first | exact Del.head _ _ | apply Del.tail); done)) | apply Imp.drop))

theorem cmp_u32 (x y : Nat) :
    Sat Tryd.prog 53 [.int .u32 x, .int .u32 y] [] (fun u L' => u = .int .i64 (if x < y then (-1 : Int) else if y < x then 1 else 0) ∧ L' = []) := by
  refine Sat.enter Tryd.func53 rfl Tryd.ntmps53 rfl (fun c R => ?_)
  try simp only [List.cons_append, List.nil_append]
  refine T.seq ?_
  refine T.reg ?_
  refine TO.p (DP.as (by conv => lhs; whnf)) ?_
  refine TO.nil ?_
  refine TQ.nn ?_
  refine T.seq ?_
  refine T.reg ?_
  refine TO.p (DP.mv (by conv => lhs; whnf)) ?_
  refine TO.n (N.callF (isnan x) Tryd.call71 ⟨rfl, trivial⟩ (by (repeat first | exact Pick.nil _ | (apply Pick.cons; focus ((repeat first | exact Del.head _ _ | apply Del.tail); done))))) ?_
  rintro u8 _ ⟨_, ⟨rfl, rfl⟩, rfl⟩
  try simp only [List.cons_append, List.nil_append]
  refine TO.p (DP.as (by conv => lhs; whnf)) ?_
  refine TO.nil ?_
  refine TQ.nn ?_
  refine T.seq ?_
  refine T.reg ?_
  refine TO.p (DP.mv (by conv => lhs; whnf)) ?_
  refine TO.n (N.callF (isnan y) Tryd.call71 ⟨rfl, trivial⟩ (by (repeat first | exact Pick.nil _ | (apply Pick.cons; focus ((repeat first | exact Del.head _ _ | apply Del.tail); done))))) ?_
  rintro u10 _ ⟨_, ⟨rfl, rfl⟩, rfl⟩
  try simp only [List.cons_append, List.nil_append]
  refine TO.p (DP.as (by conv => lhs; whnf)) ?_
  refine TO.nil ?_
  refine TQ.nn ?_
  refine T.seq ?_
  refine T.seq ?_
  refine T.reg ?_
  refine TO.p (DP.mv (by conv => lhs; whnf)) ?_
  refine TO.nil ?_
  refine TQ.nn ?_
  refine T.condF rfl ?_
  refine T.skip ?_
  refine TQ.nn ?_
  refine T.seq ?_
  refine T.seq ?_
  refine T.reg ?_
  refine TO.p (DP.mv (by conv => lhs; whnf)) ?_
  refine TO.nil ?_
  refine TQ.nn ?_
  refine T.condF rfl ?_
  refine T.skip ?_
  refine TQ.nn ?_
  refine T.seq ?_
  refine T.seq ?_
  refine T.reg ?_
  refine TO.p (DP.mv (by conv => lhs; whnf)) ?_
  refine TO.p (DP.mv (by conv => lhs; whnf)) ?_
  refine TO.p ((by first | exact DP.lss rfl rfl | exact DP.lssI rfl rfl)) ?_
  refine TO.nil ?_
  refine TQ.nn ?_
  refine T.condD rfl (fun hc3 => ?_) (fun hc3 => ?_)
  · refine T.seq ?_
    refine T.reg ?_
    refine TO.p (DP.as (by conv => lhs; whnf)) ?_
    refine TO.nil ?_
    refine TQ.nn ?_
    refine T.ret ?_
    refine TQ.nr ?_
    refine TQ.ret (vs := [.int .i64 (if x < y then (-1 : Int) else if y < x then 1 else 0)]) (L' := []) rfl ⟨by rw [if_pos hc3]; rfl, rfl⟩ ⟨rfl, rfl⟩ (by (refine Ent.imp ?_; repeat first | exact Imp.refl _ | exact Imp.nil _ | (apply Imp.pull; focus ((repeat first | exact Del.head _ _ | apply Del.tail); done)) | (apply Imp.row; focus ((repeat first | exact Del.head _ _ | apply Del.tail); done)) | apply Imp.drop))
  · refine T.skip ?_
    refine TQ.nn ?_
    refine T.seq ?_
    refine T.seq ?_
    refine T.reg ?_
    refine TO.p (DP.mv (by conv => lhs; whnf)) ?_
    refine TO.p (DP.mv (by conv => lhs; whnf)) ?_
    refine TO.p ((by first | exact DP.gtr rfl rfl | exact DP.gtrI rfl rfl)) ?_
    refine TO.nil ?_
    refine TQ.nn ?_
    refine T.condD rfl (fun hc4 => ?_) (fun hc4 => ?_)
    · refine T.seq ?_
      refine T.reg ?_
      refine TO.p (DP.as (by conv => lhs; whnf)) ?_
      refine TO.nil ?_
      refine TQ.nn ?_
      refine T.ret ?_
      refine TQ.nr ?_
      refine TQ.ret (vs := [.int .i64 (if x < y then (-1 : Int) else if y < x then 1 else 0)]) (L' := []) rfl ⟨by rw [if_neg hc3, if_pos hc4]; rfl, rfl⟩ ⟨rfl, rfl⟩ (by (refine Ent.imp ?_; repeat first | exact Imp.refl _ | exact Imp.nil _ | (apply Imp.pull; focus ((repeat first | exact Del.head _ _ | apply Del.tail); done)) | (apply Imp.row; focus ((repeat first | exact Del.head _ _ | apply Del.tail); done)) | apply Imp.drop))
    · refine T.skip ?_
      refine TQ.nn ?_
      refine T.seq ?_
      refine T.reg ?_
      refine TO.p (DP.as (by conv => lhs; whnf)) ?_
      refine TO.nil ?_
      refine TQ.nn ?_
      refine T.ret ?_
      refine TQ.ret (vs := [.int .i64 (if x < y then (-1 : Int) else if y < x then 1 else 0)]) (L' := []) rfl ⟨by rw [if_neg hc3, if_neg hc4]; rfl, rfl⟩ ⟨rfl, rfl⟩ (by (refine Ent.imp ?_; repeat first | exact Imp.refl _ | exact Imp.nil _ | (apply Imp.pull; focus ((repeat first | exact Del.head _ _ | apply Del.tail); done)) | (apply Imp.row; focus ((repeat first | exact Del.head _ _ | apply Del.tail); done)) | apply Imp.drop))

theorem find_cmp (s : Nr) (a : Nat) :
    Sat Tryd.prog 52 [.agg (nearV s).toArray, .int .u32 a] [] (fun u L' => u = .int .i64 (if s.a < a then (-1 : Int) else if a < s.a then 1 else 0) ∧ L' = []) := by
  refine Sat.enter Tryd.func52 rfl Tryd.ntmps52 rfl (fun c R => ?_)
  try simp only [List.cons_append, List.nil_append]
  refine T.seq ?_
  refine T.reg ?_
  refine TO.n (N.bxA rfl) ?_
  rintro _ _ ⟨b2, rfl, rfl⟩
  refine TO.p (DP.as (by conv => lhs; whnf)) ?_
  refine TO.nil ?_
  refine TQ.nn ?_
  refine T.seq ?_
  refine T.reg ?_
  refine TO.p (DP.fa 0 rfl Tryd.underlying40 rfl rfl sz26) ?_
  refine TO.d (D.ldR (v := .int .u32 s.a) rfl pl26 (by (repeat first | exact LMem.head _ _ | apply LMem.tail)) rfl) ?_
  refine TO.p (DP.mv (by conv => lhs; whnf)) ?_
  refine TO.n (N.callF (cmp_u32 s.a a) Tryd.call53 ⟨rfl, rfl, trivial⟩ (by (repeat first | exact Pick.nil _ | (apply Pick.cons; focus ((repeat first | exact Del.head _ _ | apply Del.tail); done))))) ?_
  rintro u8 _ ⟨_, ⟨rfl, rfl⟩, rfl⟩
  try simp only [List.cons_append, List.nil_append]
  refine TO.p (DP.as (by conv => lhs; whnf)) ?_
  refine TO.nil ?_
  refine TQ.nn ?_
  refine T.ret ?_
  refine TQ.ret (vs := [_]) (L' := []) rfl ⟨rfl, rfl⟩ ⟨rfl, rfl⟩ (by (refine Ent.imp ?_; repeat first | exact Imp.refl _ | exact Imp.nil _ | (apply Imp.pull; focus ((repeat first | exact Del.head _ _ | apply Del.tail); done)) | (apply Imp.row; focus ((repeat first | exact Del.head _ _ | apply Del.tail); done)) | apply Imp.drop))

theorem nr_bsf_spec (v : Value) (ss : List Nr) (a : Nat) (hlen : ss.length ≤ 1048576) 
    (hsort : ∀ (m h : Nat) (x y : Nr), m ≤ h → ss[m]? = some x → ss[h]? = some y → ((if y.a < a then (-1 : Int) else if a < y.a then 1 else 0) < 0 → (if x.a < a then (-1 : Int) else if a < x.a then 1 else 0) < 0)) :
    Sat Tryd.prog 51 [v, .int .u32 a, .func (.func 52) #[] #[]] [sl 40 3 v ss.length (ss.flatMap nearV)]
      (fun u L' => ∃ (i : Nat) (fd : Bool), u = .tuple #[.int .i64 i, .bool fd] ∧ i ≤ ss.length ∧ (∀ s ∈ ss.take i, (if s.a < a then (-1 : Int) else if a < s.a then 1 else 0) < 0) ∧ (∀ s ∈ ss.drop i, 0 ≤ (if s.a < a then (-1 : Int) else if a < s.a then 1 else 0)) ∧ (fd = true ↔ ∃ s, ss[i]? = some s ∧ (if s.a < a then (-1 : Int) else if a < s.a then 1 else 0) = 0) ∧ L' = [sl 40 3 v ss.length (ss.flatMap nearV)]) := by
  refine Sat.enter Tryd.func51 rfl Tryd.ntmps51 rfl (fun c R => ?_)
  try simp only [List.cons_append, List.nil_append]
  refine T.seq ?_
  refine T.reg ?_
  refine TO.p (DP.as (by conv => lhs; whnf)) ?_
  refine TO.p (DP.as (by conv => lhs; whnf)) ?_
  refine TO.nil ?_
  refine TQ.nn ?_
  refine T.seq ?_
  refine T.reg ?_
  refine TO.p (DP.mv (by conv => lhs; whnf)) ?_
  refine TO.d (D.lenO (by conv => lhs; whnf) Tryd.underlying32 (by (repeat first | exact LMem.head _ _ | apply LMem.tail))) ?_
  refine TO.p (DP.as (by conv => lhs; whnf)) ?_
  refine TO.nil ?_
  refine TQ.nn ?_
  refine T.seq ?_
  refine T.reg ?_
  refine TO.p (DP.mv (by conv => lhs; whnf)) ?_
  refine TO.p (DP.as (by conv => lhs; whnf)) ?_
  refine TO.p (DP.as (by conv => lhs; whnf)) ?_
  refine TO.nil ?_
  refine TQ.nn ?_
  refine T.seq ?_
  refine T.block ?_
  refine T.loop (S := Nat × Nat) (0, ss.length) (fun ⟨i, j⟩ => [(0, v), (1, .int .u32 a), (2, .func (.func 52) #[] #[]), (8, .int .i64 (ss.length : Nat)), (9, .int .i64 (i : Nat)), (10, .int .i64 (j : Nat))]) (fun ⟨i, j⟩ => sl 40 3 v ss.length (ss.flatMap nearV) :: R) (fun ⟨i, j⟩ => i ≤ j ∧ j ≤ ss.length ∧ (∀ s ∈ ss.take i, (if s.a < a then (-1 : Int) else if a < s.a then 1 else 0) < 0) ∧ (∀ s ∈ ss.drop j, 0 ≤ (if s.a < a then (-1 : Int) else if a < s.a then 1 else 0))) (fun ⟨i, j⟩ => j - i) ?_ ?_ ?_ ?_
  · (repeat first | exact trivial | refine ⟨rfl, ?_⟩)
  · exact ⟨Nat.zero_le _, Nat.le_refl _, by simp, by simp⟩
  · exact Ent.refl _ _
  rintro ⟨i, j⟩ g hI
  try dsimp only
  refine T.seq ?_
  refine T.seq ?_
  refine T.reg ?_
  refine TO.p (DP.mv (by conv => lhs; whnf)) ?_
  refine TO.p (DP.mv (by conv => lhs; whnf)) ?_
  refine TO.p ((by first | exact DP.lss rfl rfl | exact DP.lssI rfl rfl)) ?_
  refine TO.nil ?_
  refine TQ.nn ?_
  refine T.condD rfl (fun hc0 => ?_) (fun hc0 => ?_)
  · obtain ⟨hI1, hI2, hI3, hI4⟩ := hI
    obtain ⟨h, hh⟩ : ∃ h, h = (i + j) / 2 := ⟨_, rfl⟩
    obtain ⟨s, hs⟩ := get_some (l := ss) (i := h) (by omega)
    have hms := mem_of_get hs
    have hus := flat_elem nearV_len hs
    refine T.skip ?_
    refine TQ.nn ?_
    refine T.block ?_
    refine T.seq ?_
    refine T.reg ?_
    refine TO.p (DP.mv (by conv => lhs; whnf)) ?_
    refine TO.p (DP.mv (by conv => lhs; whnf)) ?_
    refine TO.p (DP.add rfl rfl (l := 9223372036854775808) rfl (by omega)) ?_
    refine TO.p (DP.cv rfl is3 Tryd.underlying78 (l := 18446744073709551616) rfl (by omega)) ?_
    refine TO.p (DP.to (v' := .int .u64 (h : Nat)) (DP.shr (b := 1) rfl rfl (l := 18446744073709551616) rfl (by omega)) (by rw [hh])) ?_
    refine TO.p (DP.cv rfl is78 Tryd.underlying3 (l := 9223372036854775808) rfl (by omega)) ?_
    refine TO.p (DP.as (by conv => lhs; whnf)) ?_
    refine TO.nil ?_
    refine TQ.nn ?_
    refine T.seq ?_
    refine T.reg ?_
    refine TO.p (DP.mv (by conv => lhs; whnf)) ?_
    refine TO.p (DP.mv (by conv => lhs; whnf)) ?_
    refine TO.p (DP.mv (by conv => lhs; whnf)) ?_
    refine TO.d (D.iasO (by conv => lhs; whnf) rfl Tryd.underlying32 sz40 (by (repeat first | exact LMem.head _ _ | apply LMem.tail)) (by omega)) ?_
    refine TO.d (D.ldOA (us := nearV s) (by conv => lhs; whnf) ag40 sz40 (by (repeat first | exact LMem.head _ _ | apply LMem.tail)) (by omega) hus (nearV_len s)) ?_
    refine TO.p (DP.mv (by conv => lhs; whnf)) ?_
    refine TO.n (N.callC 2 (find_cmp s a) Tryd.call52 rfl ⟨rfl, rfl, trivial⟩ (by (repeat first | exact Pick.nil _ | (apply Pick.cons; focus ((repeat first | exact Del.head _ _ | apply Del.tail); done))))) ?_
    rintro u30 _ ⟨_, ⟨rfl, rfl⟩, rfl⟩
    try simp only [List.cons_append, List.nil_append]
    refine TO.p (DP.lssI rfl rfl) ?_
    refine TO.nil ?_
    refine TQ.nn ?_
    refine T.condD rfl (fun hc1 => ?_) (fun hc1 => ?_)
    · have hN : ∀ s ∈ ss.take (h + 1), (if s.a < a then (-1 : Int) else if a < s.a then 1 else 0) < 0 := fun x hx => by
        obtain ⟨m, hm⟩ := List.mem_iff_getElem?.1 hx
        rw [List.getElem?_take] at hm
        split at hm
        · exact hsort m h x s (by omega) hm hs hc1
        · cases hm
      have hIn : h + 1 ≤ j ∧ j ≤ ss.length ∧ (∀ s ∈ ss.take (h + 1), (if s.a < a then (-1 : Int) else if a < s.a then 1 else 0) < 0) ∧ (∀ s ∈ ss.drop j, 0 ≤ (if s.a < a then (-1 : Int) else if a < s.a then 1 else 0)) := ⟨by omega, hI2, hN, hI4⟩
      refine T.reg ?_
      refine TO.p (DP.mv (by conv => lhs; whnf)) ?_
      refine TO.p ((by first | exact DP.add (b := 1) rfl rfl (l := 9223372036854775808) rfl (by omega) | exact DP.addX rfl rfl)) ?_
      refine TO.p (DP.as (by conv => lhs; whnf)) ?_
      refine TO.nil ?_
      refine TQ.bn ?_
      refine TQ.round (h + 1, j) rfl ?_ ?_ ?_ ?_
      · (repeat first | exact trivial | refine ⟨rfl, ?_⟩)
      · exact hIn
      · (simp only; omega)
      · exact Ent.refl _ _
    · have hN : ∀ s ∈ ss.drop h, 0 ≤ (if s.a < a then (-1 : Int) else if a < s.a then 1 else 0) := fun x hx => by
        obtain ⟨m, hm⟩ := List.mem_iff_getElem?.1 hx
        rw [List.getElem?_drop] at hm
        exact Int.not_lt.1 fun h5 => hc1 (hsort h (h + m) s x (by omega) hs hm h5)
      have hIn : i ≤ h ∧ h ≤ ss.length ∧ (∀ s ∈ ss.take i, (if s.a < a then (-1 : Int) else if a < s.a then 1 else 0) < 0) ∧ (∀ s ∈ ss.drop h, 0 ≤ (if s.a < a then (-1 : Int) else if a < s.a then 1 else 0)) := ⟨by omega, by omega, hI3, hN⟩
      refine T.reg ?_
      refine TO.p (DP.mv (by conv => lhs; whnf)) ?_
      refine TO.p (DP.as (by conv => lhs; whnf)) ?_
      refine TO.nil ?_
      refine TQ.bn ?_
      refine TQ.round (i, h) rfl ?_ ?_ ?_ ?_
      · (repeat first | exact trivial | refine ⟨rfl, ?_⟩)
      · exact hIn
      · (simp only; omega)
      · exact Ent.refl _ _
  · obtain ⟨hI1, hI2, hI3, hI4⟩ := hI
    obtain rfl : i = j := by omega
    refine T.exit ?_
    refine TQ.ne ?_
    refine TQ.le ?_
    refine TQ.be ?_
    refine TQ.nn ?_
    refine T.seq ?_
    refine T.reg ?_
    refine TO.p (DP.mv (by conv => lhs; whnf)) ?_
    refine TO.p (DP.mv (by conv => lhs; whnf)) ?_
    refine TO.p (DP.mv (by conv => lhs; whnf)) ?_
    refine TO.p ((by first | exact DP.lss rfl rfl | exact DP.lssI rfl rfl)) ?_
    refine TO.pB (DP.mv (by conv => lhs; whnf)) (fun hg39 => ?_) (fun hg39 => ?_)
    · obtain ⟨s, hs⟩ := get_some (l := ss) (i := i) hg39
      have hms := mem_of_get hs
      have hus := flat_elem nearV_len hs
      refine TO.onP rfl (DP.mv (by conv => lhs; whnf)) ?_
      refine TO.onP rfl (DP.mv (by conv => lhs; whnf)) ?_
      refine TO.onP rfl (DP.mv (by conv => lhs; whnf)) ?_
      refine TO.onD rfl (D.iasO (by conv => lhs; whnf) rfl Tryd.underlying32 sz40 (by (repeat first | exact LMem.head _ _ | apply LMem.tail)) (by omega)) ?_
      refine TO.onD rfl (D.ldOA (us := nearV s) (by conv => lhs; whnf) ag40 sz40 (by (repeat first | exact LMem.head _ _ | apply LMem.tail)) (by omega) hus (nearV_len s)) ?_
      refine TO.onP rfl (DP.mv (by conv => lhs; whnf)) ?_
      refine TO.on rfl (N.callC 2 (find_cmp s a) Tryd.call52 rfl ⟨rfl, rfl, trivial⟩ (by (repeat first | exact Pick.nil _ | (apply Pick.cons; focus ((repeat first | exact Del.head _ _ | apply Del.tail); done))))) ?_
      rintro u46 _ ⟨_, ⟨rfl, rfl⟩, rfl⟩
      try simp only [List.cons_append, List.nil_append]
      refine TO.onP rfl (DP.eqlI rfl rfl) ?_
      refine TO.p (DP.pkT rfl (by conv => lhs; whnf)) ?_
      refine TO.p (DP.as (by conv => lhs; whnf)) ?_
      refine TO.p (DP.as (by conv => lhs; whnf)) ?_
      refine TO.nil ?_
      refine TQ.nn ?_
      refine T.ret ?_
      refine TQ.ret (vs := [.int .i64 (i : Nat), .bool _]) (L' := [_]) rfl ⟨rfl, rfl, rfl⟩ ⟨i, _, rfl, hI2, hI3, hI4, ⟨fun h5 => ⟨s, hs, of_decide_eq_true h5⟩, fun ⟨s2, h5, h6⟩ => by rw [hs] at h5; cases h5; exact decide_eq_true h6⟩, rfl⟩ (by (refine Ent.imp ?_; repeat first | exact Imp.refl _ | exact Imp.nil _ | (apply Imp.pull; focus ((repeat first | exact Del.head _ _ | apply Del.tail); done)) | (apply Imp.row; focus ((repeat first | exact Del.head _ _ | apply Del.tail); done)) | apply Imp.drop))
    · refine TO.off rfl rfl ?_
      refine TO.off rfl rfl ?_
      refine TO.off rfl rfl ?_
      refine TO.off rfl rfl ?_
      refine TO.off rfl rfl ?_
      refine TO.off rfl rfl ?_
      refine TO.off rfl rfl ?_
      refine TO.off rfl rfl ?_
      refine TO.p (DP.pkF rfl (by conv => lhs; whnf)) ?_
      refine TO.p (DP.as (by conv => lhs; whnf)) ?_
      refine TO.p (DP.as (by conv => lhs; whnf)) ?_
      refine TO.nil ?_
      refine TQ.nn ?_
      refine T.ret ?_
      refine TQ.ret (vs := [.int .i64 (i : Nat), .bool _]) (L' := [_]) rfl ⟨rfl, rfl, rfl⟩ ⟨i, _, rfl, hI2, hI3, hI4, ⟨fun h5 => (by cases h5), fun ⟨s2, h5, _⟩ => (by rw [List.getElem?_eq_none (by omega)] at h5; cases h5)⟩, rfl⟩ (by (refine Ent.imp ?_; repeat first | exact Imp.refl _ | exact Imp.nil _ | (apply Imp.pull; focus ((repeat first | exact Del.head _ _ | apply Del.tail); done)) | (apply Imp.row; focus ((repeat first | exact Del.head _ _ | apply Del.tail); done)) | apply Imp.drop))

theorem tidy_del (s : Nr) (cb now : Nat) :
    Sat Tryd.prog 50 [.agg (nearV s).toArray, .pointer (some ⟨cb, 0, none⟩)] [row 31 cb [.int .u64 now]] (fun u L' => u = .bool (decide (s.u ≤ now)) ∧ L' = [row 31 cb [.int .u64 now]]) := by
  refine Sat.enter Tryd.func50 rfl Tryd.ntmps50 rfl (fun c R => ?_)
  try simp only [List.cons_append, List.nil_append]
  refine T.seq ?_
  refine T.reg ?_
  refine TO.n (N.bxA rfl) ?_
  rintro _ _ ⟨b2, rfl, rfl⟩
  refine TO.p (DP.as (by conv => lhs; whnf)) ?_
  refine TO.nil ?_
  refine TQ.nn ?_
  refine T.seq ?_
  refine T.reg ?_
  refine TO.p (DP.fa 2 rfl Tryd.underlying40 rfl rfl sz31) ?_
  refine TO.d (D.ldR (v := .int .u64 s.u) rfl pl31 (by (repeat first | exact LMem.head _ _ | apply LMem.tail)) rfl) ?_
  refine TO.d (D.ldR (v := .int .u64 now) rfl pl31 (by (repeat first | exact LMem.head _ _ | apply LMem.tail)) rfl) ?_
  refine TO.p ((by first | exact DP.leq rfl rfl | exact DP.leqI rfl rfl)) ?_
  refine TO.p (DP.as (by conv => lhs; whnf)) ?_
  refine TO.nil ?_
  refine TQ.nn ?_
  refine T.ret ?_
  refine TQ.ret (vs := [.bool _]) (L' := [row 31 cb [.int .u64 now]]) rfl ⟨rfl, rfl⟩ ⟨rfl, rfl⟩ (by (refine Ent.imp ?_; repeat first | exact Imp.refl _ | exact Imp.nil _ | (apply Imp.pull; focus ((repeat first | exact Del.head _ _ | apply Del.tail); done)) | (apply Imp.row; focus ((repeat first | exact Del.head _ _ | apply Del.tail); done)) | apply Imp.drop))

theorem nr_index_none (v : Value) (ss : List Nr) (cb now : Nat) (hlen : ss.length ≤ 1048576)  (hall : ∀ s ∈ ss, decide (s.u ≤ now) = false) :
    Sat Tryd.prog 70 [v, .func (.func 50) #[] #[.pointer (some ⟨cb, 0, none⟩)]] [sl 40 3 v ss.length (ss.flatMap nearV), row 31 cb [.int .u64 now]] (fun u L' => u = .int .i64 (-1) ∧ L' = [sl 40 3 v ss.length (ss.flatMap nearV), row 31 cb [.int .u64 now]]) := by
  refine Sat.enter Tryd.func70 rfl Tryd.ntmps70 rfl (fun c R => ?_)
  try simp only [List.cons_append, List.nil_append]
  refine T.seq ?_
  refine T.reg ?_
  refine TO.p (DP.as (by conv => lhs; whnf)) ?_
  refine TO.nil ?_
  refine TQ.nn ?_
  refine T.seq ?_
  refine T.seq ?_
  refine T.reg ?_
  refine TO.p (DP.mv (by conv => lhs; whnf)) ?_
  refine TO.d (D.lenO (by conv => lhs; whnf) Tryd.underlying32 (by (repeat first | exact LMem.head _ _ | apply LMem.tail))) ?_
  refine TO.p (DP.mv (by conv => lhs; whnf)) ?_
  refine TO.nil ?_
  refine TQ.nn ?_
  refine T.block ?_
  refine T.loop (S := Nat) 0 (fun i => [(0, v), (1, .func (.func 50) #[] #[.pointer (some ⟨cb, 0, none⟩)]), (7, .int .i64 (ss.length : Nat)), (8, .int .i64 (i : Nat))]) (fun i => sl 40 3 v ss.length (ss.flatMap nearV) :: row 31 cb [.int .u64 now] :: R) (fun i => i ≤ ss.length) (fun i => ss.length - i) ?_ ?_ ?_ ?_
  · (repeat first | exact trivial | refine ⟨rfl, ?_⟩)
  · exact Nat.zero_le _
  · exact Ent.refl _ _
  rintro i g hI
  refine T.seq ?_
  refine T.reg ?_
  refine TO.p ((by first | exact DP.lss rfl rfl | exact DP.lssI rfl rfl)) ?_
  refine TO.nil ?_
  refine TQ.nn ?_
  refine T.seq ?_
  refine T.condD rfl (fun hc0 => ?_) (fun hc0 => ?_)
  · obtain ⟨s, hs⟩ := get_some (l := ss) (i := i) (by omega)
    have hms := mem_of_get hs
    have hus := flat_elem nearV_len hs
    refine T.skip ?_
    refine TQ.nn ?_
    refine T.seq ?_
    refine T.block ?_
    refine T.seq ?_
    refine T.reg ?_
    refine TO.p (DP.mv (by conv => lhs; whnf)) ?_
    refine TO.p (DP.as (by conv => lhs; whnf)) ?_
    refine TO.nil ?_
    refine TQ.nn ?_
    refine T.seq ?_
    refine T.reg ?_
    refine TO.p (DP.mv (by conv => lhs; whnf)) ?_
    refine TO.p (DP.mv (by conv => lhs; whnf)) ?_
    refine TO.p (DP.mv (by conv => lhs; whnf)) ?_
    refine TO.d (D.iasO (by conv => lhs; whnf) rfl Tryd.underlying32 sz40 (by (repeat first | exact LMem.head _ _ | apply LMem.tail)) (by omega)) ?_
    refine TO.d (D.ldOA (us := nearV s) (by conv => lhs; whnf) ag40 sz40 (by (repeat first | exact LMem.head _ _ | apply LMem.tail)) (by omega) hus (nearV_len s)) ?_
    refine TO.n (N.callC 1 (tidy_del s cb now) Tryd.call50 rfl ⟨rfl, trivial⟩ (by (repeat first | exact Pick.nil _ | (apply Pick.cons; focus ((repeat first | exact Del.head _ _ | apply Del.tail); done))))) ?_
    rintro u16 _ ⟨_, ⟨rfl, rfl⟩, rfl⟩
    try simp only [List.cons_append, List.nil_append]
    refine TO.nil ?_
    refine TQ.nn ?_
    refine T.condB rfl (fun hc1 => ?_) (fun hc1 => ?_)
    · exact absurd hc1 (by rw [hall s hms]; decide)
    · refine T.skip ?_
      refine TQ.bn ?_
      refine TQ.nn ?_
      refine T.reg ?_
      refine TO.p ((by first | exact DP.add (b := 1) rfl rfl (l := 9223372036854775808) rfl (by omega) | exact DP.addX rfl rfl)) ?_
      refine TO.p (DP.mv (by conv => lhs; whnf)) ?_
      refine TO.nil ?_
      refine TQ.round (i + 1) rfl ?_ ?_ ?_ ?_
      · (repeat first | exact trivial | refine ⟨rfl, ?_⟩)
      · omega
      · omega
      · (refine Ent.imp ?_; repeat first | exact Imp.refl _ | exact Imp.nil _ | (apply Imp.pull; focus ((repeat first | exact Del.head _ _ | apply Del.tail); done)) | (apply Imp.row; focus ((repeat first | exact Del.head _ _ | apply Del.tail); done)) | apply Imp.drop)
  · refine T.exit ?_
    refine TQ.ne ?_
    refine TQ.le ?_
    refine TQ.be ?_
    refine TQ.nn ?_
    refine T.seq ?_
    refine T.reg ?_
    refine TO.p (DP.as (by conv => lhs; whnf)) ?_
    refine TO.nil ?_
    refine TQ.nn ?_
    refine T.ret ?_
    refine TQ.ret (vs := [.int .i64 (-1)]) (L' := [sl 40 3 v ss.length (ss.flatMap nearV), row 31 cb [.int .u64 now]]) rfl ⟨rfl, rfl⟩ ⟨rfl, rfl⟩ (by (refine Ent.imp ?_; repeat first | exact Imp.refl _ | exact Imp.nil _ | (apply Imp.pull; focus ((repeat first | exact Del.head _ _ | apply Del.tail); done)) | (apply Imp.row; focus ((repeat first | exact Del.head _ _ | apply Del.tail); done)) | apply Imp.drop))

theorem nr_index_some (v : Value) (ss : List Nr) (cb now : Nat) (hlen : ss.length ≤ 1048576)  (i0 : Nat) (s0 : Nr) (hi0 : i0 < ss.length) (hs0 : ss[i0]? = some s0) (hp0 : decide (s0.u ≤ now) = true) (hpre : ∀ s ∈ ss.take i0, decide (s.u ≤ now) = false) :
    Sat Tryd.prog 70 [v, .func (.func 50) #[] #[.pointer (some ⟨cb, 0, none⟩)]] [sl 40 3 v ss.length (ss.flatMap nearV), row 31 cb [.int .u64 now]] (fun u L' => u = .int .i64 (i0 : Nat) ∧ L' = [sl 40 3 v ss.length (ss.flatMap nearV), row 31 cb [.int .u64 now]]) := by
  refine Sat.enter Tryd.func70 rfl Tryd.ntmps70 rfl (fun c R => ?_)
  try simp only [List.cons_append, List.nil_append]
  refine T.seq ?_
  refine T.reg ?_
  refine TO.p (DP.as (by conv => lhs; whnf)) ?_
  refine TO.nil ?_
  refine TQ.nn ?_
  refine T.seq ?_
  refine T.seq ?_
  refine T.reg ?_
  refine TO.p (DP.mv (by conv => lhs; whnf)) ?_
  refine TO.d (D.lenO (by conv => lhs; whnf) Tryd.underlying32 (by (repeat first | exact LMem.head _ _ | apply LMem.tail))) ?_
  refine TO.p (DP.mv (by conv => lhs; whnf)) ?_
  refine TO.nil ?_
  refine TQ.nn ?_
  refine T.block ?_
  refine T.loop (S := Nat) 0 (fun i => [(0, v), (1, .func (.func 50) #[] #[.pointer (some ⟨cb, 0, none⟩)]), (7, .int .i64 (ss.length : Nat)), (8, .int .i64 (i : Nat))]) (fun i => sl 40 3 v ss.length (ss.flatMap nearV) :: row 31 cb [.int .u64 now] :: R) (fun i => i ≤ i0) (fun i => ss.length - i) ?_ ?_ ?_ ?_
  · (repeat first | exact trivial | refine ⟨rfl, ?_⟩)
  · exact Nat.zero_le _
  · exact Ent.refl _ _
  rintro i g hI
  refine T.seq ?_
  refine T.reg ?_
  refine TO.p ((by first | exact DP.lss rfl rfl | exact DP.lssI rfl rfl)) ?_
  refine TO.nil ?_
  refine TQ.nn ?_
  refine T.seq ?_
  refine T.condD rfl (fun hc0 => ?_) (fun hc0 => ?_)
  · have hI := hI
    obtain ⟨s, hs⟩ := get_some (l := ss) (i := i) (by omega)
    have hms := mem_of_get hs
    have hus := flat_elem nearV_len hs
    refine T.skip ?_
    refine TQ.nn ?_
    refine T.seq ?_
    refine T.block ?_
    refine T.seq ?_
    refine T.reg ?_
    refine TO.p (DP.mv (by conv => lhs; whnf)) ?_
    refine TO.p (DP.as (by conv => lhs; whnf)) ?_
    refine TO.nil ?_
    refine TQ.nn ?_
    refine T.seq ?_
    refine T.reg ?_
    refine TO.p (DP.mv (by conv => lhs; whnf)) ?_
    refine TO.p (DP.mv (by conv => lhs; whnf)) ?_
    refine TO.p (DP.mv (by conv => lhs; whnf)) ?_
    refine TO.d (D.iasO (by conv => lhs; whnf) rfl Tryd.underlying32 sz40 (by (repeat first | exact LMem.head _ _ | apply LMem.tail)) (by omega)) ?_
    refine TO.d (D.ldOA (us := nearV s) (by conv => lhs; whnf) ag40 sz40 (by (repeat first | exact LMem.head _ _ | apply LMem.tail)) (by omega) hus (nearV_len s)) ?_
    refine TO.n (N.callC 1 (tidy_del s cb now) Tryd.call50 rfl ⟨rfl, trivial⟩ (by (repeat first | exact Pick.nil _ | (apply Pick.cons; focus ((repeat first | exact Del.head _ _ | apply Del.tail); done))))) ?_
    rintro u16 _ ⟨_, ⟨rfl, rfl⟩, rfl⟩
    try simp only [List.cons_append, List.nil_append]
    refine TO.nil ?_
    refine TQ.nn ?_
    refine T.condB rfl (fun hc1 => ?_) (fun hc1 => ?_)
    · obtain rfl : i = i0 := by
        rcases Nat.lt_or_eq_of_le hI with h5 | h5
        · have := hpre s (mem_of_get (show (ss.take i0)[i]? = some s by rw [List.getElem?_take, if_pos h5]; exact hs))
          rw [this] at hc1; cases hc1
        · exact h5
      refine T.seq ?_
      refine T.reg ?_
      refine TO.p (DP.mv (by conv => lhs; whnf)) ?_
      refine TO.p (DP.as (by conv => lhs; whnf)) ?_
      refine TO.nil ?_
      refine TQ.nn ?_
      refine T.ret ?_
      refine TQ.br ?_
      refine TQ.nr ?_
      refine TQ.lr ?_
      refine TQ.br ?_
      refine TQ.nr ?_
      refine TQ.ret (vs := [.int .i64 (i : Nat)]) (L' := [sl 40 3 v ss.length (ss.flatMap nearV), row 31 cb [.int .u64 now]]) rfl ⟨rfl, rfl⟩ ⟨rfl, rfl⟩ (by (refine Ent.imp ?_; repeat first | exact Imp.refl _ | exact Imp.nil _ | (apply Imp.pull; focus ((repeat first | exact Del.head _ _ | apply Del.tail); done)) | (apply Imp.row; focus ((repeat first | exact Del.head _ _ | apply Del.tail); done)) | apply Imp.drop))
    · have hnx : i + 1 ≤ i0 := by
        rcases Nat.lt_or_eq_of_le hI with h5 | h5
        · omega
        · subst h5; rw [hs] at hs0; cases hs0; rw [hp0] at hc1; cases hc1
      refine T.skip ?_
      refine TQ.bn ?_
      refine TQ.nn ?_
      refine T.reg ?_
      refine TO.p ((by first | exact DP.add (b := 1) rfl rfl (l := 9223372036854775808) rfl (by omega) | exact DP.addX rfl rfl)) ?_
      refine TO.p (DP.mv (by conv => lhs; whnf)) ?_
      refine TO.nil ?_
      refine TQ.round (i + 1) rfl ?_ ?_ ?_ ?_
      · (repeat first | exact trivial | refine ⟨rfl, ?_⟩)
      · omega
      · omega
      · (refine Ent.imp ?_; repeat first | exact Imp.refl _ | exact Imp.nil _ | (apply Imp.pull; focus ((repeat first | exact Del.head _ _ | apply Del.tail); done)) | (apply Imp.row; focus ((repeat first | exact Del.head _ _ | apply Del.tail); done)) | apply Imp.drop)
  · exact absurd hi0 (by omega)

theorem nr_df_take {ss : List Nr} {j : Nat} {s : Nr} {q : Nr → Bool} (hs : ss[j]? = some s) : (ss.take (j + 1)).filter q = (ss.take j).filter q ++ (if q s = true then [s] else []) := by
  rw [List.take_add_one, hs, List.filter_append]
  congr 1
  by_cases h : q s = true <;> simp [h]
theorem nr_set_take {cur : List Nr} {i : Nat} {s : Nr} (h : i < cur.length) : (cur.set i s).take (i + 1) = cur.take i ++ [s] := by
  rw [List.take_add_one, List.take_set_of_le (Nat.le_refl _), List.getElem?_set_self h]; rfl

theorem nr_delete_none (v : Value) (ss : List Nr) (cb now : Nat) (hlen : ss.length ≤ 1048576)  (hall : ∀ s ∈ ss, decide (s.u ≤ now) = false) :
    Sat Tryd.prog 49 [v, .func (.func 50) #[] #[.pointer (some ⟨cb, 0, none⟩)]] [sl 40 3 v ss.length (ss.flatMap nearV), row 31 cb [.int .u64 now]] (fun u L' => L' = [sl 40 3 u (ss.filter fun s => !decide (s.u ≤ now)).length ((ss.filter fun s => !decide (s.u ≤ now)).flatMap nearV), row 31 cb [.int .u64 now]]) := by
  refine Sat.enter Tryd.func49 rfl Tryd.ntmps49 rfl (fun c R => ?_)
  try simp only [List.cons_append, List.nil_append]
  refine T.seq ?_
  refine T.reg ?_
  refine TO.p (DP.as (by conv => lhs; whnf)) ?_
  refine TO.nil ?_
  refine TQ.nn ?_
  refine T.seq ?_
  refine T.reg ?_
  refine TO.p (DP.mv (by conv => lhs; whnf)) ?_
  refine TO.p (DP.mv (by conv => lhs; whnf)) ?_
  refine TO.n (N.callF (nr_index_none v ss cb now hlen hall) Tryd.call70 ⟨rfl, rfl, trivial⟩ (by (repeat first | exact Pick.nil _ | (apply Pick.cons; focus ((repeat first | exact Del.head _ _ | apply Del.tail); done))))) ?_
  rintro u10 _ ⟨_, ⟨rfl, rfl⟩, rfl⟩
  try simp only [List.cons_append, List.nil_append]
  refine TO.p (DP.as (by conv => lhs; whnf)) ?_
  refine TO.nil ?_
  refine TQ.nn ?_
  refine T.seq ?_
  refine T.seq ?_
  refine T.reg ?_
  refine TO.p (DP.mv (by conv => lhs; whnf)) ?_
  refine TO.p ((by first | exact DP.eqlI rfl rfl)) ?_
  refine TO.nil ?_
  refine TQ.nn ?_
  refine T.condD rfl (fun hc0 => ?_) (fun hc0 => ?_)
  · refine T.seq ?_
    refine T.reg ?_
    refine TO.p (DP.mv (by conv => lhs; whnf)) ?_
    refine TO.p (DP.as (by conv => lhs; whnf)) ?_
    refine TO.nil ?_
    refine TQ.nn ?_
    refine T.ret ?_
    refine TQ.nr ?_
    have hf : (ss.filter fun s => !decide (s.u ≤ now)) = ss := List.filter_eq_self.2 fun s hs => by rw [hall s hs]; rfl
    rw [hf]
    refine TQ.ret (vs := [v]) (L' := [sl 40 3 v ss.length (ss.flatMap nearV), row 31 cb [.int .u64 now]]) rfl ⟨rfl, rfl⟩ rfl (by (refine Ent.imp ?_; repeat first | exact Imp.refl _ | exact Imp.nil _ | (apply Imp.pull; focus ((repeat first | exact Del.head _ _ | apply Del.tail); done)) | (apply Imp.row; focus ((repeat first | exact Del.head _ _ | apply Del.tail); done)) | apply Imp.drop))
  · exact absurd rfl hc0

theorem nr_delete_some (v : Value) (ss : List Nr) (cb now : Nat) (hlen : ss.length ≤ 1048576)  (i0 : Nat) (s0 : Nr) (hi0 : i0 < ss.length) (hs0 : ss[i0]? = some s0) (hp0 : decide (s0.u ≤ now) = true) (hpre : ∀ s ∈ ss.take i0, decide (s.u ≤ now) = false) :
    Sat Tryd.prog 49 [v, .func (.func 50) #[] #[.pointer (some ⟨cb, 0, none⟩)]] [sl 40 3 v ss.length (ss.flatMap nearV), row 31 cb [.int .u64 now]] (fun u L' => L' = [sl 40 3 u (ss.filter fun s => !decide (s.u ≤ now)).length ((ss.filter fun s => !decide (s.u ≤ now)).flatMap nearV), row 31 cb [.int .u64 now]]) := by
  refine Sat.sl_at (.head _ _) (by omega) ?_
  rintro ⟨b, k, rfl⟩
  refine Sat.enter Tryd.func49 rfl Tryd.ntmps49 rfl (fun c R => ?_)
  try simp only [List.cons_append, List.nil_append]
  refine T.seq ?_
  refine T.reg ?_
  refine TO.p (DP.as (by conv => lhs; whnf)) ?_
  refine TO.nil ?_
  refine TQ.nn ?_
  refine T.seq ?_
  refine T.reg ?_
  refine TO.p (DP.mv (by conv => lhs; whnf)) ?_
  refine TO.p (DP.mv (by conv => lhs; whnf)) ?_
  refine TO.n (N.callF (nr_index_some _ ss cb now hlen i0 s0 hi0 hs0 hp0 hpre) Tryd.call70 ⟨rfl, rfl, trivial⟩ (by (repeat first | exact Pick.nil _ | (apply Pick.cons; focus ((repeat first | exact Del.head _ _ | apply Del.tail); done))))) ?_
  rintro u10 _ ⟨_, ⟨rfl, rfl⟩, rfl⟩
  try simp only [List.cons_append, List.nil_append]
  refine TO.p (DP.as (by conv => lhs; whnf)) ?_
  refine TO.nil ?_
  refine TQ.nn ?_
  refine T.seq ?_
  refine T.seq ?_
  refine T.reg ?_
  refine TO.p (DP.mv (by conv => lhs; whnf)) ?_
  refine TO.p (DP.eqlI rfl rfl) ?_
  refine TO.nil ?_
  refine TQ.nn ?_
  refine T.condD rfl (fun hc0 => ?_) (fun hc0 => ?_)
  · exact absurd hc0 (by omega)
  · refine T.skip ?_
    refine TQ.nn ?_
    refine T.seq ?_
    refine T.seq ?_
    refine T.reg ?_
    refine TO.p (DP.mv (by conv => lhs; whnf)) ?_
    refine TO.p ((by first | exact DP.add (b := 1) rfl rfl (l := 9223372036854775808) rfl (by omega) | exact DP.addX rfl rfl)) ?_
    refine TO.p (DP.as (by conv => lhs; whnf)) ?_
    refine TO.nil ?_
    refine TQ.nn ?_
    refine T.block ?_
    refine T.loop (S := Nat × Nat × List Nr) (i0, i0 + 1, ss) (fun ⟨i, j, cur⟩ => [(0, .slice (some ⟨b, 0, none⟩) ss.length (ss.length + k)), (1, .func (.func 50) #[] #[.pointer (some ⟨cb, 0, none⟩)]), (5, .int .i64 (i : Nat)), (6, .int .i64 (j : Nat))]) (fun ⟨i, j, cur⟩ => sl 40 3 (.slice (some ⟨b, 0, none⟩) ss.length (ss.length + k)) ss.length ((cur).flatMap nearV) :: row 31 cb [.int .u64 now] :: R) (fun ⟨i, j, cur⟩ => i < j ∧ j ≤ ss.length ∧ cur.length = ss.length ∧ cur.take i = (ss.take j).filter (fun s => !decide (s.u ≤ now)) ∧ cur.drop j = ss.drop j) (fun ⟨i, j, cur⟩ => ss.length - j) ?_ ?_ ?_ ?_
    · (repeat first | exact trivial | refine ⟨rfl, ?_⟩)
    · (refine ⟨Nat.lt_succ_self _, hi0, rfl, ?_, rfl⟩; rw [nr_df_take hs0, hp0]; rw [List.filter_eq_self.2 (fun s hs => by rw [hpre s hs]; rfl)]; simp)
    · exact Ent.refl _ _
    rintro ⟨i, j, cur⟩ g ⟨hI1, hI2, hI3, hI4, hI5⟩
    try dsimp only
    refine T.seq ?_
    refine T.seq ?_
    refine T.reg ?_
    refine TO.p (DP.mv (by conv => lhs; whnf)) ?_
    refine TO.p (DP.mv (by conv => lhs; whnf)) ?_
    refine TO.p (DP.lenS rfl Tryd.underlying32) ?_
    refine TO.p ((by first | exact DP.lss rfl rfl | exact DP.lssI rfl rfl)) ?_
    refine TO.nil ?_
    refine TQ.nn ?_
    refine T.condD rfl (fun hc1 => ?_) (fun hc1 => ?_)
    · obtain ⟨s, hs1⟩ := get_some (l := ss) (i := j) (by omega)
      have hs : cur[j]? = some s := by
        have h5 := congrArg (fun l => l[0]?) hI5
        simp only [List.getElem?_drop, Nat.add_zero] at h5
        rw [h5]; exact hs1
      have hms := mem_of_get hs1
      have hus := flat_elem nearV_len hs
      refine T.skip ?_
      refine TQ.nn ?_
      refine T.seq ?_
      refine T.block ?_
      refine T.seq ?_
      refine T.reg ?_
      refine TO.p (DP.mv (by conv => lhs; whnf)) ?_
      refine TO.p (DP.mv (by conv => lhs; whnf)) ?_
      refine TO.d (D.iasO (by conv => lhs; whnf) rfl Tryd.underlying32 sz40 (by (repeat first | exact LMem.head _ _ | apply LMem.tail)) (by omega)) ?_
      refine TO.d (D.ldOA (us := nearV s) (by conv => lhs; whnf) ag40 sz40 (by (repeat first | exact LMem.head _ _ | apply LMem.tail)) (by omega) hus (nearV_len s)) ?_
      refine TO.n (N.alA zr40) ?_
      rintro _ _ ⟨b7, rfl, rfl⟩
      refine TO.n0 (N.stA (vs := nearV s) rfl rfl sz40 (by (repeat first | exact Put.head _ _ _ | apply Put.tail)) (by rw [nearV_len]; simp) (nearV_one s) (nearV_len s)) ?_
      rintro _ _ ⟨rfl, rfl⟩
      rw [show setAll ([.int .u32 0, .string ⟨#[]⟩, .int .u64 0] : List Value) 0 (nearV s) = nearV s from rfl]
      refine TO.nil ?_
      refine TQ.nn ?_
      refine T.seq ?_
      refine T.reg ?_
      refine TO.p (DP.mv (by conv => lhs; whnf)) ?_
      refine TO.d (D.ldRA rfl ag40 sz40 (by (repeat first | exact LMem.head _ _ | apply LMem.tail)) (by rfl)) ?_
      refine TO.n (N.callC 1 (tidy_del s cb now) Tryd.call50 rfl ⟨rfl, trivial⟩ (by (repeat first | exact Pick.nil _ | (apply Pick.cons; focus ((repeat first | exact Del.head _ _ | apply Del.tail); done))))) ?_
      rintro u28 _ ⟨_, ⟨rfl, rfl⟩, rfl⟩
      try simp only [List.cons_append, List.nil_append]
      refine TO.p (DP.not rfl) ?_
      refine TO.nil ?_
      refine TQ.nn ?_
      refine T.condB rfl (fun hc2 => ?_) (fun hc2 => ?_)
      · have hps : decide (s.u ≤ now) = false := by simpa using hc2
        have hIn : i + 1 < j + 1 ∧ j + 1 ≤ ss.length ∧ (cur.set i s).length = ss.length ∧ (cur.set i s).take (i + 1) = (ss.take (j + 1)).filter (fun s => !decide (s.u ≤ now)) ∧ (cur.set i s).drop (j + 1) = ss.drop (j + 1) := by
          refine ⟨by omega, by omega, by rw [List.length_set]; exact hI3, by rw [nr_set_take (by omega), nr_df_take hs1, hI4, hps]; rfl, ?_⟩
          rw [List.drop_set_of_lt (by omega)]
          have h5 := congrArg (List.drop 1) hI5
          rwa [List.drop_drop, List.drop_drop] at h5
        refine T.seq ?_
        refine T.reg ?_
        refine TO.p (DP.mv (by conv => lhs; whnf)) ?_
        refine TO.p (DP.mv (by conv => lhs; whnf)) ?_
        refine TO.d (D.ldRA rfl ag40 sz40 (by (repeat first | exact LMem.head _ _ | apply LMem.tail)) (by rfl)) ?_
        refine TO.d (D.iasO (by conv => lhs; whnf) rfl Tryd.underlying32 sz40 (by (repeat first | exact LMem.head _ _ | apply LMem.tail)) (by omega)) ?_
        refine TO.n0 (N.stOA (us := nearV s) (sz := 2) (by conv => lhs; whnf) rfl sz40 (by (repeat first | exact Put.head _ _ _ | apply Put.tail)) (by omega) (nearV_len s) (nearV_one s)) ?_
        rintro _ _ ⟨rfl, rfl⟩
        rw [flat_set nearV_len cur i (by omega) s]
        refine TO.nil ?_
        refine TQ.nn ?_
        refine T.reg ?_
        refine TO.p (DP.mv (by conv => lhs; whnf)) ?_
        refine TO.p ((by first | exact DP.add (b := 1) rfl rfl (l := 9223372036854775808) rfl (by omega) | exact DP.addX rfl rfl)) ?_
        refine TO.p (DP.as (by conv => lhs; whnf)) ?_
        refine TO.nil ?_
        refine TQ.bn ?_
        refine TQ.nn ?_
        refine T.reg ?_
        refine TO.p (DP.mv (by conv => lhs; whnf)) ?_
        refine TO.p ((by first | exact DP.add (b := 1) rfl rfl (l := 9223372036854775808) rfl (by omega) | exact DP.addX rfl rfl)) ?_
        refine TO.p (DP.as (by conv => lhs; whnf)) ?_
        refine TO.nil ?_
        refine TQ.round (i + 1, j + 1, cur.set i s) rfl ?_ ?_ ?_ ?_
        · (repeat first | exact trivial | refine ⟨rfl, ?_⟩)
        · exact hIn
        · (dsimp only; omega)
        · (dsimp only; (refine Ent.imp ?_; repeat first | exact Imp.refl _ | exact Imp.nil _ | (apply Imp.pull; focus ((repeat first | exact Del.head _ _ | apply Del.tail); done)) | (apply Imp.row; focus ((repeat first | exact Del.head _ _ | apply Del.tail); done)) | apply Imp.drop))
      · have hps : decide (s.u ≤ now) = true := by simpa using hc2
        have hIn : i < j + 1 ∧ j + 1 ≤ ss.length ∧ cur.length = ss.length ∧ cur.take i = (ss.take (j + 1)).filter (fun s => !decide (s.u ≤ now)) ∧ cur.drop (j + 1) = ss.drop (j + 1) := by
          refine ⟨by omega, by omega, hI3, by rw [nr_df_take hs1, hI4, hps]; simp, ?_⟩
          have h5 := congrArg (List.drop 1) hI5
          rwa [List.drop_drop, List.drop_drop] at h5
        refine T.skip ?_
        refine TQ.bn ?_
        refine TQ.nn ?_
        refine T.reg ?_
        refine TO.p (DP.mv (by conv => lhs; whnf)) ?_
        refine TO.p ((by first | exact DP.add (b := 1) rfl rfl (l := 9223372036854775808) rfl (by omega) | exact DP.addX rfl rfl)) ?_
        refine TO.p (DP.as (by conv => lhs; whnf)) ?_
        refine TO.nil ?_
        refine TQ.round (i, j + 1, cur) rfl ?_ ?_ ?_ ?_
        · (repeat first | exact trivial | refine ⟨rfl, ?_⟩)
        · exact hIn
        · (dsimp only; omega)
        · (dsimp only; (refine Ent.imp ?_; repeat first | exact Imp.refl _ | exact Imp.nil _ | (apply Imp.pull; focus ((repeat first | exact Del.head _ _ | apply Del.tail); done)) | (apply Imp.row; focus ((repeat first | exact Del.head _ _ | apply Del.tail); done)) | apply Imp.drop))
    · obtain rfl : j = ss.length := by omega
      rw [List.take_length] at hI4
      obtain ⟨m, hm⟩ : ∃ m, ss.length - i = m + 1 := ⟨ss.length - i - 1, by omega⟩
      refine T.exit ?_
      refine TQ.ne ?_
      refine TQ.le ?_
      refine TQ.be ?_
      refine TQ.nn ?_
      refine T.seq ?_
      refine T.open_slC (by (repeat first | exact Del.head _ _ | apply Del.tail)) ?_
      rintro rest hxl hrl
      have hcut : setAll (cur.flatMap nearV ++ rest) (i * 3) (List.replicate (m + 1) ([.int .u32 0, .string ⟨#[]⟩, .int .u64 0] : List Value)).flatten = (ss.filter fun s => !decide (s.u ≤ now)).flatMap nearV ++ ((List.replicate (m + 1) ([.int .u32 0, .string ⟨#[]⟩, .int .u64 0] : List Value)).flatten ++ rest) := by
        have hzl : (List.replicate (m + 1) ([.int .u32 0, .string ⟨#[]⟩, .int .u64 0] : List Value)).flatten.length = (m + 1) * 3 := by rw [flatten_rep_length]; rfl
        rw [setAll_eq _ _ _ (by rw [hzl, List.length_append, hxl]; omega), hzl, List.take_append_of_le_length (by omega), flat_take nearV_len, hI4, List.drop_append, List.drop_of_length_le (show (cur.flatMap nearV).length ≤ i * 3 + (m + 1) * 3 by omega), List.nil_append, show i * 3 + (m + 1) * 3 - (cur.flatMap nearV).length = 0 by omega, List.drop_zero, List.append_assoc]
      have hfl : (ss.filter fun s => !decide (s.u ≤ now)).length = i := by rw [← hI4, List.length_take]; omega
      refine T.reg ?_
      refine TO.p (DP.mv (by conv => lhs; whnf)) ?_
      refine TO.p (DP.mv (by conv => lhs; whnf)) ?_
      refine TO.p (DP.to (v' := .slice (some ⟨b, i * 3, none⟩) (m + 1) (m + 1 + k)) (DP.slSl rfl rfl Tryd.underlying32 sz40 (by omega)) (by rw [if_neg (by omega), hm, show ss.length + k - i = m + 1 + k by omega]; simp)) ?_
      refine TO.n0 (N.clr rfl Tryd.underlying32 zr40 rfl rfl (by simp [Value.oneCell', str]) (by (repeat first | exact Put.head _ _ _ | apply Put.tail)) (by simp only [List.length_append, hxl, List.length_cons, List.length_nil]; omega)) ?_
      rintro _ _ ⟨rfl, rfl⟩
      rw [hcut]
      refine TO.nil ?_
      refine TQ.nn ?_
      refine T.seq ?_
      refine T.reg ?_
      refine TO.p (DP.mv (by conv => lhs; whnf)) ?_
      refine TO.p (DP.mv (by conv => lhs; whnf)) ?_
      refine TO.p (DP.slSh rfl rfl Tryd.underlying32 sz40 (by omega)) ?_
      refine TO.p (DP.as (by conv => lhs; whnf)) ?_
      refine TO.nil ?_
      refine TQ.nn ?_
      refine T.ret ?_
      refine TQ.ret (vs := [.slice (some ⟨b, 0, none⟩) i (ss.length + k)]) (L' := [sl 40 3 (.slice (some ⟨b, 0, none⟩) i (i + (m + 1 + k))) (ss.filter fun s => !decide (s.u ≤ now)).length ((ss.filter fun s => !decide (s.u ≤ now)).flatMap nearV), row 31 cb [.int .u64 now]]) rfl ⟨rfl, rfl⟩ (by rw [show i + (m + 1 + k) = ss.length + k by omega]; exact rfl) ?_
      simp only [List.cons_append, List.nil_append]
      refine Ent.imp ?_
      rw [hfl]
      exact Imp.sl (k := m + 1 + k) (by (repeat first | exact Del.head _ _ | apply Del.tail)) (by rw [flat_len nearV_len, hfl]) (by rw [List.length_append, flatten_rep_length, hrl]; simp only [List.length_cons, List.length_nil]; omega) (by (repeat first | exact Imp.refl _ | exact Imp.nil _ | (apply Imp.pull; focus ((repeat first | exact Del.head _ _ | apply Del.tail); done)) | apply Imp.drop))

theorem nr_delete_func (v : Value) (ss : List Nr) (cb now : Nat) (hlen : ss.length ≤ 1048576)  :
    Sat Tryd.prog 49 [v, .func (.func 50) #[] #[.pointer (some ⟨cb, 0, none⟩)]] [sl 40 3 v ss.length (ss.flatMap nearV), row 31 cb [.int .u64 now]] (fun u L' => L' = [sl 40 3 u (ss.filter fun s => !decide (s.u ≤ now)).length ((ss.filter fun s => !decide (s.u ≤ now)).flatMap nearV), row 31 cb [.int .u64 now]]) := by
  rcases first_at (fun s => decide (s.u ≤ now)) ss with hall | ⟨i0, s0, hi0, hs0, hp0, hpre⟩
  · exact nr_delete_none v ss cb now hlen hall
  · exact nr_delete_some v ss cb now hlen i0 s0 hi0 hs0 hp0 hpre
end Go.Proofs.YtbandaebilkkkaaDoor
