/- Lemmas for the proofs of this seat: no statement of the seat is claimed here. -/
import Derived.Test.YtbandaebilkkkaaDoorK13
set_option linter.all false
namespace Go.Proofs.YtbandaebilkkkaaDoor
open Go Pw
set_option maxRecDepth 20000
set_option maxHeartbeats 4000000

theorem eg34 : Tryd.prog.eqGuardType Tryd.prog.depth 34 = false := by kernel_rfl
theorem sih34 : Tryd.prog.stoodInHeld 34 = false := by kernel_rfl
theorem eg40 : Tryd.prog.eqGuardType Tryd.prog.depth 40 = false := by kernel_rfl
theorem sih40 : Tryd.prog.stoodInHeld 40 = false := by kernel_rfl
theorem eg48 : Tryd.prog.eqGuardType Tryd.prog.depth 48 = false := by kernel_rfl
theorem sih48 : Tryd.prog.stoodInHeld 48 = false := by kernel_rfl
theorem eqAr (a b : Ar) (w : World) : (Op.equalIn (9998 + 1 + 1) 34 (.agg (arV a).toArray) (.agg (arV b).toArray)).run Tryd.prog w = .ok (decide (a = b)) w := by
  refine (eqSt (n := 9998 + 1) Tryd.underlying34 sih34 (.cons (by decide) rfl rfl pl22 sz22 (fun w => run_eqI _ _ _ Tryd.underlying22 w) (.cons (by decide) rfl rfl pl9 sz9 (fun w => run_eqStr _ _ _ Tryd.underlying9 w) (.cons (by decide) rfl rfl pl26 sz26 (fun w => run_eqI _ _ _ Tryd.underlying26 w) (.cons (by decide) rfl rfl pl9 sz9 (fun w => run_eqStr _ _ _ Tryd.underlying9 w) (.cons (by decide) rfl rfl pl26 sz26 (fun w => run_eqI _ _ _ Tryd.underlying26 w) .nil))))) w).trans ?_
  congr 1
  obtain ⟨a1, a2, a3, a4, a5⟩ := a
  obtain ⟨b1, b2, b3, b4, b5⟩ := b
  rw [Bool.eq_iff_iff]
  simp only [List.all_cons, List.all_nil, id, Bool.and_eq_true, decide_eq_true_eq, Ar.mk.injEq, and_true]
  constructor <;> (rintro ⟨h0, h1, h2, h3, h4⟩; exact ⟨by omega, h1, by omega, h3, by omega⟩)
theorem eqFr (a b : Fr) (w : World) : (Op.equalIn (9998 + 1 + 1) 48 (.agg (frV a).toArray) (.agg (frV b).toArray)).run Tryd.prog w = .ok (decide (a = b)) w := by
  refine (eqSt (n := 9998 + 1) Tryd.underlying48 sih48 (.cons (by decide) rfl rfl pl9 sz9 (fun w => run_eqStr _ _ _ Tryd.underlying9 w) (.cons (by decide) rfl rfl pl9 sz9 (fun w => run_eqStr _ _ _ Tryd.underlying9 w) (.cons (by decide) rfl rfl pl22 sz22 (fun w => run_eqI _ _ _ Tryd.underlying22 w) (.cons (by decide) rfl rfl pl9 sz9 (fun w => run_eqStr _ _ _ Tryd.underlying9 w) .nil)))) w).trans ?_
  congr 1
  obtain ⟨a1, a2, a3, a4⟩ := a
  obtain ⟨b1, b2, b3, b4⟩ := b
  rw [Bool.eq_iff_iff]
  simp only [List.all_cons, List.all_nil, id, Bool.and_eq_true, decide_eq_true_eq, Fr.mk.injEq, and_true]
  constructor <;> (rintro ⟨h0, h1, h2, h3⟩; exact ⟨h0, h1, by omega, h3⟩)
theorem eqNr (a b : Nr) (w : World) : (Op.equalIn (9998 + 1 + 1) 40 (.agg (nearV a).toArray) (.agg (nearV b).toArray)).run Tryd.prog w = .ok (decide (a = b)) w := by
  refine (eqSt (n := 9998 + 1) Tryd.underlying40 sih40 (.cons (by decide) rfl rfl pl26 sz26 (fun w => run_eqI _ _ _ Tryd.underlying26 w) (.cons (by decide) rfl rfl pl9 sz9 (fun w => run_eqStr _ _ _ Tryd.underlying9 w) (.cons (by decide) rfl rfl pl31 sz31 (fun w => run_eqI _ _ _ Tryd.underlying31 w) .nil))) w).trans ?_
  congr 1
  obtain ⟨a1, a2, a3⟩ := a
  obtain ⟨b1, b2, b3⟩ := b
  rw [Bool.eq_iff_iff]
  simp only [List.all_cons, List.all_nil, id, Bool.and_eq_true, decide_eq_true_eq, Nr.mk.injEq, and_true]
  constructor <;> (rintro ⟨h0, h1, h2⟩; exact ⟨by omega, h1, by omega⟩)

theorem new_ok (mac : List UInt8) (addr : Nat) (most : Int) (life : Nat) (hm : mac.length ≤ 1048576) (ha : addr < 4294967296) (h : newOk mac addr most life) :
    Sat Tryd.prog 10 [str mac, .int .u32 addr, .int .i64 most, .int .u64 life] [] (fun u L' => ∃ p, u = .tuple #[.pointer (some ⟨p, 0, none⟩), .int .i64 (0 : Nat)] ∧ L' = [row 64 p (tabV ⟨mac, addr, most.toNat, life⟩ (.slice none 0 0)), sl 40 3 (.slice none 0 0) ([] : List Nr).length (([] : List Nr).flatMap nearV)]) := by
  refine (new_spec mac addr most life hm ha).post ?_
  rintro u L' (⟨_, p, rfl, rfl⟩ | ⟨h2, _⟩)
  · exact ⟨_, Imp.refl _, p, rfl, rfl⟩
  · exact absurd h h2
theorem new_no (mac : List UInt8) (addr : Nat) (most : Int) (life : Nat) (hm : mac.length ≤ 1048576) (ha : addr < 4294967296) (h : ¬ newOk mac addr most life) :
    Sat Tryd.prog 10 [str mac, .int .u32 addr, .int .i64 most, .int .u64 life] [] (fun u L' => u = .tuple #[.pointer none, .int .i64 (2 : Nat)] ∧ L' = []) := by
  refine (new_spec mac addr most life hm ha).post ?_
  rintro u L' (⟨h2, _⟩ | ⟨_, rfl, rfl⟩)
  · exact absurd h2 h
  · exact ⟨_, Imp.refl _, rfl, rfl⟩
theorem rnew_ok (mac : List UInt8) (addr : Nat) (most : Int) (life : Nat) (hm : mac.length ≤ 1048576) (ha : addr < 4294967296) (h : newOk mac addr most life) :
    Sat Tryd.prog 27 [str mac, .int .u32 addr, .int .i64 most, .int .u64 life] [] (fun u L' => ∃ p, u = .pointer (some ⟨p, 0, none⟩) ∧ L' = [row 80 p (tabV ⟨mac, addr, most.toNat, life⟩ (.slice none 0 0)), sl 40 3 (.slice none 0 0) ([] : List Nr).length (([] : List Nr).flatMap nearV)]) := by
  refine (rnew_spec mac addr most life hm ha).post ?_
  rintro u L' (⟨_, p, rfl, rfl⟩ | ⟨h2, _⟩)
  · exact ⟨_, Imp.refl _, p, rfl, rfl⟩
  · exact absurd h h2
theorem rnew_no (mac : List UInt8) (addr : Nat) (most : Int) (life : Nat) (hm : mac.length ≤ 1048576) (ha : addr < 4294967296) (h : ¬ newOk mac addr most life) :
    Sat Tryd.prog 27 [str mac, .int .u32 addr, .int .i64 most, .int .u64 life] [] (fun u L' => u = .pointer none ∧ L' = []) := by
  refine (rnew_spec mac addr most life hm ha).post ?_
  rintro u L' (⟨h2, _⟩ | ⟨_, rfl, rfl⟩)
  · exact absurd h2 h
  · exact ⟨_, Imp.refl _, rfl, rfl⟩
def m1 : List UInt8 := [2, 0, 0, 0, 0, 1]
def m2 : List UInt8 := [2, 0, 0, 0, 0, 2]
def q0 : Tb := ⟨m1, 167772161, 1, 10⟩
def a0 : Ar := ⟨1, m2, 167772162, [0, 0, 0, 0, 0, 0], 167772161⟩
def x0 : Ar := ⟨2, m1, 167772161, m2, 167772162⟩
def w1 : List Nr := [⟨167772162, m2, 15⟩]
def s0 : List UInt8 := hdE ++ numE 2 2 ++ m1 ++ numE 167772161 4 ++ m2 ++ numE 167772162 4
theorem q0_ok : q0.ok := ⟨by decide, by decide, by decide, by decide, by decide, by decide, by decide, by decide⟩
theorem a0_ok : a0.ok := ⟨by decide, by decide, by decide, by decide, by decide⟩
theorem x0_ok : x0.ok := ⟨by decide, by decide, by decide, by decide, by decide⟩
theorem take0 : takeE q0 [] a0 5 = (w1, x0, true, 0) := by decide
theorem look1 : lookE w1 167772162 14 = (w1, m2, 0) := by decide
theorem look2 : lookE w1 167772162 15 = ([], [], 5) := by decide
theorem enc0 : encA x0 = (s0, 0) := by decide
theorem dec0 : decA s0 = (x0, 0) := by decide
theorem new0 : newOk m1 167772161 1 10 := ⟨by decide, by decide, by decide, by decide, by decide, by decide⟩
theorem works_spec  :
    Sat Tryd.prog 9 [] [] (fun u L' => u = .bool true ∧ L' = []) := by
  refine Sat.enter Tryd.func9 rfl Tryd.ntmps9 rfl (fun c R => ?_)
  try simp only [List.cons_append, List.nil_append]
  refine T.seq ?_
  refine T.reg ?_
  refine TO.p (DP.as (by conv => lhs; whnf)) ?_
  refine TO.nil ?_
  refine TQ.nn ?_
  refine T.seq ?_
  refine T.reg ?_
  refine TO.n (N.callF (new_ok m1 167772161 1 10 (by decide) (by decide) new0) Tryd.call10 ⟨rfl, rfl, rfl, rfl, trivial⟩ (by (repeat first | exact Pick.nil _ | (apply Pick.cons; focus ((repeat first | exact Del.head _ _ | apply Del.tail); done))))) ?_
  rintro u15 _ ⟨_, ⟨p, rfl, rfl⟩, rfl⟩
  try simp only [List.cons_append, List.nil_append]
  refine TO.p (DP.mv (by conv => lhs; whnf)) ?_
  refine TO.p (DP.ex rfl rfl) ?_
  refine TO.p (DP.ex rfl rfl) ?_
  refine TO.p (DP.as (by conv => lhs; whnf)) ?_
  refine TO.p (DP.as (by conv => lhs; whnf)) ?_
  refine TO.nil ?_
  refine TQ.nn ?_
  refine T.seq ?_
  refine T.seq ?_
  refine T.reg ?_
  refine TO.p (DP.mv (by conv => lhs; whnf)) ?_
  refine TO.p (DP.to (v' := .bool false) (DP.neq (a := 0) (b := 0) rfl rfl) (by simp)) ?_
  refine TO.p (DP.mv (by conv => lhs; whnf)) ?_
  refine TO.onP rfl (DP.mv (by conv => lhs; whnf)) ?_
  refine TO.onP rfl (DP.peqS rfl rfl Tryd.underlying27) ?_
  refine TO.p (DP.pkF rfl (by conv => lhs; whnf)) ?_
  refine TO.nil ?_
  refine TQ.nn ?_
  refine T.condF rfl ?_
  refine T.skip ?_
  refine TQ.nn ?_
  refine T.seq ?_
  refine T.reg ?_
  refine TO.p (DP.mv (by conv => lhs; whnf)) ?_
  refine TO.p (DP.bdL (vs := [(0, _), (1, _), (2, _), (3, _), (4, _)]) (us := arV a0) ⟨rfl, rfl, rfl, rfl, rfl, rfl, rfl, rfl, rfl, rfl, trivial⟩ pc34 zr34 rfl) ?_
  refine TO.n (N.callF (take_spec q0 [] (.slice none 0 0) p (by decide) a0 5 q0_ok List.Pairwise.nil a0_ok) Tryd.call11 ⟨rfl, rfl, rfl, trivial⟩ (by (repeat first | exact Pick.nil _ | (apply Pick.cons; focus ((repeat first | exact Del.head _ _ | apply Del.tail); done))))) ?_
  rintro u27 _ ⟨_, ⟨rfl, v2, rfl⟩, rfl⟩
  try simp only [List.cons_append, List.nil_append]
  refine TO.p (DP.mv (by conv => lhs; whnf)) ?_
  rw [take0]
  refine TO.p (DP.ex rfl rfl) ?_
  refine TO.p (DP.ex rfl rfl) ?_
  refine TO.p (DP.ex rfl rfl) ?_
  refine TO.n (N.alA zr34) ?_
  rintro _ _ ⟨b3, rfl, rfl⟩
  refine TO.n0 (N.stA (vs := arV x0) rfl rfl sz34 (by (repeat first | exact Put.head _ _ _ | apply Put.tail)) (by simp [frV, arV, fr0, ar0]) (by simp [frV, arV, fr0, ar0, str, Value.oneCell']) (by rfl)) ?_
  rintro _ _ ⟨rfl, rfl⟩
  rw [show setAll _ 0 (arV x0) = arV x0 from rfl]
  refine TO.p (DP.as (by conv => lhs; whnf)) ?_
  refine TO.p (DP.as (by conv => lhs; whnf)) ?_
  refine TO.nil ?_
  refine TQ.nn ?_
  refine T.seq ?_
  refine T.reg ?_
  refine TO.p (DP.mv (by conv => lhs; whnf)) ?_
  refine TO.n (N.callF (look_spec q0 w1 v2 p (by decide) 167772162 14 (List.pairwise_singleton _ _)) Tryd.call14 ⟨rfl, rfl, rfl, trivial⟩ (by (repeat first | exact Pick.nil _ | (apply Pick.cons; focus ((repeat first | exact Del.head _ _ | apply Del.tail); done))))) ?_
  rintro u33 _ ⟨_, ⟨rfl, v3, rfl⟩, rfl⟩
  try simp only [List.cons_append, List.nil_append]
  refine TO.p (DP.mv (by conv => lhs; whnf)) ?_
  rw [look1]
  refine TO.p (DP.ex rfl rfl) ?_
  refine TO.p (DP.ex rfl rfl) ?_
  refine TO.p (DP.as (by conv => lhs; whnf)) ?_
  refine TO.p (DP.as (by conv => lhs; whnf)) ?_
  refine TO.nil ?_
  refine TQ.nn ?_
  refine T.seq ?_
  refine T.reg ?_
  refine TO.p (DP.mv (by conv => lhs; whnf)) ?_
  refine TO.n (N.callF (look_spec q0 w1 v3 p (by decide) 167772162 15 (List.pairwise_singleton _ _)) Tryd.call14 ⟨rfl, rfl, rfl, trivial⟩ (by (repeat first | exact Pick.nil _ | (apply Pick.cons; focus ((repeat first | exact Del.head _ _ | apply Del.tail); done))))) ?_
  rintro u38 _ ⟨_, ⟨rfl, v4, rfl⟩, rfl⟩
  try simp only [List.cons_append, List.nil_append]
  refine TO.p (DP.mv (by conv => lhs; whnf)) ?_
  rw [look2]
  refine TO.p (DP.ex rfl rfl) ?_
  refine TO.p (DP.ex rfl rfl) ?_
  refine TO.p (DP.as (by conv => lhs; whnf)) ?_
  refine TO.p (DP.as (by conv => lhs; whnf)) ?_
  refine TO.nil ?_
  refine TQ.nn ?_
  refine T.seq ?_
  refine T.reg ?_
  refine TO.d (D.ldRA (cs := arV x0) rfl ag34 sz34 (by (repeat first | exact LMem.head _ _ | apply LMem.tail)) rfl) ?_
  refine TO.n (N.callF (enca_spec x0 x0_ok) Tryd.call18 ⟨rfl, trivial⟩ (by (repeat first | exact Pick.nil _ | (apply Pick.cons; focus ((repeat first | exact Del.head _ _ | apply Del.tail); done))))) ?_
  rintro u43 _ ⟨_, ⟨rfl, rfl⟩, rfl⟩
  try simp only [List.cons_append, List.nil_append]
  refine TO.p (DP.mv (by conv => lhs; whnf)) ?_
  rw [enc0]
  refine TO.p (DP.ex rfl rfl) ?_
  refine TO.p (DP.ex rfl rfl) ?_
  refine TO.p (DP.as (by conv => lhs; whnf)) ?_
  refine TO.p (DP.as (by conv => lhs; whnf)) ?_
  refine TO.nil ?_
  refine TQ.nn ?_
  refine T.seq ?_
  refine T.reg ?_
  refine TO.p (DP.mv (by conv => lhs; whnf)) ?_
  refine TO.n (N.callF (deca_spec s0 (by decide)) Tryd.call22 ⟨rfl, trivial⟩ (by (repeat first | exact Pick.nil _ | (apply Pick.cons; focus ((repeat first | exact Del.head _ _ | apply Del.tail); done))))) ?_
  rintro u48 _ ⟨_, ⟨rfl, rfl⟩, rfl⟩
  try simp only [List.cons_append, List.nil_append]
  refine TO.p (DP.mv (by conv => lhs; whnf)) ?_
  rw [dec0]
  refine TO.p (DP.ex rfl rfl) ?_
  refine TO.p (DP.ex rfl rfl) ?_
  refine TO.n (N.alA zr34) ?_
  rintro _ _ ⟨b12, rfl, rfl⟩
  refine TO.n0 (N.stA (vs := arV x0) rfl rfl sz34 (by (repeat first | exact Put.head _ _ _ | apply Put.tail)) (by simp [frV, arV, fr0, ar0]) (by simp [frV, arV, fr0, ar0, str, Value.oneCell']) (by rfl)) ?_
  rintro _ _ ⟨rfl, rfl⟩
  rw [show setAll _ 0 (arV x0) = arV x0 from rfl]
  refine TO.p (DP.as (by conv => lhs; whnf)) ?_
  refine TO.nil ?_
  refine TQ.nn ?_
  refine T.seq ?_
  refine T.reg ?_
  refine TO.p (DP.mv (by conv => lhs; whnf)) ?_
  refine TO.p (DP.mv (by conv => lhs; whnf)) ?_
  refine TO.onP rfl (DP.mv (by conv => lhs; whnf)) ?_
  refine TO.onP rfl (DP.to (v' := .bool true) (DP.eql rfl rfl) (by simp)) ?_
  refine TO.p (DP.pkT rfl (by conv => lhs; whnf)) ?_
  refine TO.p (DP.mv (by conv => lhs; whnf)) ?_
  refine TO.onP rfl (DP.fa 3 rfl Tryd.underlying34 rfl rfl sz9) ?_
  refine TO.onD rfl (D.ldR (v := str m2) rfl pl9 (by (repeat first | exact LMem.head _ _ | apply LMem.tail)) rfl) ?_
  refine TO.onP rfl (DP.to (v' := .bool true) (DP.teql (l := m2) (m := m2) rfl rfl) (by simp)) ?_
  refine TO.p (DP.pkT rfl (by conv => lhs; whnf)) ?_
  refine TO.p (DP.mv (by conv => lhs; whnf)) ?_
  refine TO.onP rfl (DP.mv (by conv => lhs; whnf)) ?_
  refine TO.onP rfl (DP.to (v' := .bool true) (DP.eql rfl rfl) (by simp)) ?_
  refine TO.p (DP.pkT rfl (by conv => lhs; whnf)) ?_
  refine TO.p (DP.mv (by conv => lhs; whnf)) ?_
  refine TO.onP rfl (DP.mv (by conv => lhs; whnf)) ?_
  refine TO.onP rfl (DP.fa 3 rfl Tryd.underlying34 rfl rfl sz9) ?_
  refine TO.onD rfl (D.ldR (v := str m2) rfl pl9 (by (repeat first | exact LMem.head _ _ | apply LMem.tail)) rfl) ?_
  refine TO.onP rfl (DP.to (v' := .bool true) (DP.teql (l := m2) (m := m2) rfl rfl) (by simp)) ?_
  refine TO.p (DP.pkT rfl (by conv => lhs; whnf)) ?_
  refine TO.p (DP.mv (by conv => lhs; whnf)) ?_
  refine TO.onP rfl (DP.mv (by conv => lhs; whnf)) ?_
  refine TO.onP rfl (DP.to (v' := .bool true) (DP.eql (a := 5) (b := 5) rfl rfl) (by simp)) ?_
  refine TO.p (DP.pkT rfl (by conv => lhs; whnf)) ?_
  refine TO.p (DP.mv (by conv => lhs; whnf)) ?_
  refine TO.onP rfl (DP.mv (by conv => lhs; whnf)) ?_
  refine TO.onP rfl (DP.to (v' := .bool true) (DP.eql rfl rfl) (by simp)) ?_
  refine TO.p (DP.pkT rfl (by conv => lhs; whnf)) ?_
  refine TO.p (DP.mv (by conv => lhs; whnf)) ?_
  refine TO.onP rfl (DP.mv (by conv => lhs; whnf)) ?_
  refine TO.onP rfl (DP.lenT rfl Tryd.underlying9) ?_
  refine TO.onP rfl (DP.to (v' := .bool true) (DP.eql (a := s0.length) (b := 28) rfl rfl) (by rw [show s0.length = 28 from by decide]; simp)) ?_
  refine TO.p (DP.pkT rfl (by conv => lhs; whnf)) ?_
  refine TO.p (DP.mv (by conv => lhs; whnf)) ?_
  refine TO.onP rfl (DP.mv (by conv => lhs; whnf)) ?_
  refine TO.onP rfl (DP.to (v' := .bool true) (DP.eql rfl rfl) (by simp)) ?_
  refine TO.p (DP.pkT rfl (by conv => lhs; whnf)) ?_
  refine TO.p (DP.mv (by conv => lhs; whnf)) ?_
  refine TO.onD rfl (D.ldRA (cs := arV x0) rfl ag34 sz34 (by (repeat first | exact LMem.head _ _ | apply LMem.tail)) rfl) ?_
  refine TO.onD rfl (D.ldRA (cs := arV x0) rfl ag34 sz34 (by (repeat first | exact LMem.head _ _ | apply LMem.tail)) rfl) ?_
  refine TO.onP rfl (DP.to (v' := .bool true) (DP.eqOf rfl rfl eg34 (fun w => eqAr x0 x0 w)) (by simp)) ?_
  refine TO.p (DP.pkT rfl (by conv => lhs; whnf)) ?_
  refine TO.p (DP.as (by conv => lhs; whnf)) ?_
  refine TO.nil ?_
  refine TQ.nn ?_
  refine T.ret ?_
  refine TQ.ret (vs := [.bool true]) (L' := []) rfl ⟨rfl, rfl⟩ ⟨rfl, rfl⟩ (by (refine Ent.imp ?_; repeat first | exact Imp.refl _ | exact Imp.nil _ | (apply Imp.pull; focus ((repeat first | exact Del.head _ _ | apply Del.tail); done)) | (apply Imp.row; focus ((repeat first | exact Del.head _ _ | apply Del.tail); done)) | apply Imp.drop))

theorem none_spec (a now : Nat) :
    Sat Tryd.prog 7 [.int .u32 a, .int .u64 now] [] (fun u L' => u = .bool true ∧ L' = []) := by
  refine Sat.enter Tryd.func7 rfl Tryd.ntmps7 rfl (fun c R => ?_)
  try simp only [List.cons_append, List.nil_append]
  refine T.seq ?_
  refine T.reg ?_
  refine TO.p (DP.as (by conv => lhs; whnf)) ?_
  refine TO.nil ?_
  refine TQ.nn ?_
  refine T.seq ?_
  refine T.reg ?_
  refine TO.p (DP.as (by conv => lhs; whnf)) ?_
  refine TO.nil ?_
  refine TQ.nn ?_
  refine T.seq ?_
  refine T.reg ?_
  refine TO.p (DP.mv (by conv => lhs; whnf)) ?_
  refine TO.p (DP.bdL (vs := []) (us := arV ar0) trivial pc34 zr34 rfl) ?_
  refine TO.p (DP.mv (by conv => lhs; whnf)) ?_
  refine TO.n (N.callF (take_nil ar0 now) Tryd.call11 ⟨rfl, rfl, rfl, trivial⟩ (by (repeat first | exact Pick.nil _ | (apply Pick.cons; focus ((repeat first | exact Del.head _ _ | apply Del.tail); done))))) ?_
  rintro u15 _ ⟨_, ⟨rfl, rfl⟩, rfl⟩
  try simp only [List.cons_append, List.nil_append]
  refine TO.p (DP.mv (by conv => lhs; whnf)) ?_
  refine TO.p (DP.ex rfl rfl) ?_
  refine TO.p (DP.ex rfl rfl) ?_
  refine TO.p (DP.ex rfl rfl) ?_
  refine TO.n (N.alA zr34) ?_
  rintro _ _ ⟨b6, rfl, rfl⟩
  refine TO.n0 (N.stA (vs := arV ar0) rfl rfl sz34 (by (repeat first | exact Put.head _ _ _ | apply Put.tail)) (by simp [frV, arV, fr0, ar0]) (by simp [frV, arV, fr0, ar0, str, Value.oneCell']) (by rfl)) ?_
  rintro _ _ ⟨rfl, rfl⟩
  rw [show setAll _ 0 (arV ar0) = arV ar0 from rfl]
  refine TO.p (DP.as (by conv => lhs; whnf)) ?_
  refine TO.p (DP.as (by conv => lhs; whnf)) ?_
  refine TO.nil ?_
  refine TQ.nn ?_
  refine T.seq ?_
  refine T.reg ?_
  refine TO.p (DP.mv (by conv => lhs; whnf)) ?_
  refine TO.p (DP.mv (by conv => lhs; whnf)) ?_
  refine TO.p (DP.mv (by conv => lhs; whnf)) ?_
  refine TO.n (N.callF (look_nil a now) Tryd.call14 ⟨rfl, rfl, rfl, trivial⟩ (by (repeat first | exact Pick.nil _ | (apply Pick.cons; focus ((repeat first | exact Del.head _ _ | apply Del.tail); done))))) ?_
  rintro u23 _ ⟨_, ⟨rfl, rfl⟩, rfl⟩
  try simp only [List.cons_append, List.nil_append]
  refine TO.p (DP.mv (by conv => lhs; whnf)) ?_
  refine TO.p (DP.ex rfl rfl) ?_
  refine TO.p (DP.ex rfl rfl) ?_
  refine TO.p (DP.as (by conv => lhs; whnf)) ?_
  refine TO.p (DP.as (by conv => lhs; whnf)) ?_
  refine TO.nil ?_
  refine TQ.nn ?_
  refine T.seq ?_
  refine T.reg ?_
  refine TO.p (DP.mv (by conv => lhs; whnf)) ?_
  refine TO.p (DP.to (v' := .bool true) (DP.not rfl) rfl) ?_
  refine TO.p (DP.mv (by conv => lhs; whnf)) ?_
  refine TO.onP rfl (DP.mv (by conv => lhs; whnf)) ?_
  refine TO.onP rfl (DP.to (v' := .bool true) (DP.eql (a := 1) (b := 1) rfl rfl) (by simp)) ?_
  refine TO.p (DP.pkT rfl (by conv => lhs; whnf)) ?_
  refine TO.p (DP.mv (by conv => lhs; whnf)) ?_
  refine TO.onP rfl (DP.mv (by conv => lhs; whnf)) ?_
  refine TO.onP rfl (DP.mv (by conv => lhs; whnf)) ?_
  refine TO.onP rfl (DP.mv (by conv => lhs; whnf)) ?_
  refine TO.on rfl (N.callF (learn_nil a [] now) Tryd.call12 ⟨rfl, rfl, rfl, rfl, trivial⟩ (by (repeat first | exact Pick.nil _ | (apply Pick.cons; focus ((repeat first | exact Del.head _ _ | apply Del.tail); done))))) ?_
  rintro u36 _ ⟨_, ⟨rfl, rfl⟩, rfl⟩
  try simp only [List.cons_append, List.nil_append]
  refine TO.onP rfl (DP.to (v' := .bool true) (DP.eql (a := 1) (b := 1) rfl rfl) (by simp)) ?_
  refine TO.p (DP.pkT rfl (by conv => lhs; whnf)) ?_
  refine TO.p (DP.mv (by conv => lhs; whnf)) ?_
  refine TO.onP rfl (DP.mv (by conv => lhs; whnf)) ?_
  refine TO.onP rfl (DP.to (v' := .bool true) (DP.eql (a := 1) (b := 1) rfl rfl) (by simp)) ?_
  refine TO.p (DP.pkT rfl (by conv => lhs; whnf)) ?_
  refine TO.p (DP.mv (by conv => lhs; whnf)) ?_
  refine TO.onP rfl (DP.mv (by conv => lhs; whnf)) ?_
  refine TO.onP rfl (DP.mv (by conv => lhs; whnf)) ?_
  refine TO.on rfl (N.callF (ask_nil a) Tryd.call32 ⟨rfl, rfl, trivial⟩ (by (repeat first | exact Pick.nil _ | (apply Pick.cons; focus ((repeat first | exact Del.head _ _ | apply Del.tail); done))))) ?_
  rintro u46 _ ⟨_, ⟨rfl, rfl⟩, rfl⟩
  try simp only [List.cons_append, List.nil_append]
  refine TO.onP rfl (DP.bdL (vs := []) (us := arV ar0) trivial pc34 zr34 rfl) ?_
  refine TO.onP rfl (DP.to (v' := .bool true) (DP.eqOf rfl rfl eg34 (fun w => eqAr ar0 ar0 w)) (by simp)) ?_
  refine TO.p (DP.pkT rfl (by conv => lhs; whnf)) ?_
  refine TO.p (DP.mv (by conv => lhs; whnf)) ?_
  refine TO.onP rfl (DP.mv (by conv => lhs; whnf)) ?_
  refine TO.onP rfl (DP.mv (by conv => lhs; whnf)) ?_
  refine TO.on rfl (N.callF (near_nil now) Tryd.call13 ⟨rfl, rfl, trivial⟩ (by (repeat first | exact Pick.nil _ | (apply Pick.cons; focus ((repeat first | exact Del.head _ _ | apply Del.tail); done))))) ?_
  rintro u53 _ ⟨_, ⟨rfl, rfl⟩, rfl⟩
  try simp only [List.cons_append, List.nil_append]
  refine TO.onP rfl (DP.lenS rfl Tryd.underlying32) ?_
  refine TO.onP rfl (DP.to (v' := .bool true) (DP.eql (a := 0) (b := 0) rfl rfl) (by simp)) ?_
  refine TO.p (DP.pkT rfl (by conv => lhs; whnf)) ?_
  refine TO.p (DP.mv (by conv => lhs; whnf)) ?_
  refine TO.on rfl (N.callF (works_spec) Tryd.call9 trivial (by (repeat first | exact Pick.nil _ | (apply Pick.cons; focus ((repeat first | exact Del.head _ _ | apply Del.tail); done))))) ?_
  rintro u58 _ ⟨_, ⟨rfl, rfl⟩, rfl⟩
  try simp only [List.cons_append, List.nil_append]
  refine TO.p (DP.pkT rfl (by conv => lhs; whnf)) ?_
  refine TO.p (DP.as (by conv => lhs; whnf)) ?_
  refine TO.nil ?_
  refine TQ.nn ?_
  refine T.ret ?_
  refine TQ.ret (vs := [.bool true]) (L' := []) rfl ⟨rfl, rfl⟩ ⟨rfl, rfl⟩ (by (refine Ent.imp ?_; repeat first | exact Imp.refl _ | exact Imp.nil _ | (apply Imp.pull; focus ((repeat first | exact Del.head _ _ | apply Del.tail); done)) | (apply Imp.row; focus ((repeat first | exact Del.head _ _ | apply Del.tail); done)) | apply Imp.drop))
end Go.Proofs.YtbandaebilkkkaaDoor
