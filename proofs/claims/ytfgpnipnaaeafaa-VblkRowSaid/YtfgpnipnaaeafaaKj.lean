/- Lemmas for the proofs of this seat: no statement of the seat is claimed here. -/
import Derived.Test.YtfgpnipnaaeafaaKi
import Derived.Test.YtfgpnipnaaeafaaKc
set_option linter.all false

namespace Go.Proofs.Ytfgpnipnaaeafaa
open Go Pw
set_option maxRecDepth 20000
set_option maxHeartbeats 4000000
set_option synthInstance.maxHeartbeats 400000
set_option synthInstance.maxSize 4000
set_option maxHeartbeats 4000000

/-- To stop a walk. -/
structure Hold (p : Prop) : Prop where mk ::
  h : p
theorem take_gt {α : Type} [Inhabited α] {s : List α} {k : Nat} (h : k < s.length) : s.take (k + 1) = s.take k ++ [gt s k] := by
  rw [List.take_add_one, gt_get h]; rfl
theorem drop_gt {α : Type} [Inhabited α] {s : List α} {k : Nat} (h : k < s.length) : s.drop k = gt s k :: s.drop (k + 1) := by
  rw [List.drop_eq_getElem_cons h]
  congr 1
  have := gt_get h
  rw [List.getElem?_eq_getElem h] at this
  exact Option.some.inj this
theorem _root_.Pw.T.atK {P : Program} {r : Rd} {c : Ctx} {L : List Assn} {Q : Exit → Env → Rd → World → Prop} {E : Env} (cd : Operand) {x1 x2 y : Code} (h : T P r c L (.cond cd x1 x2) (thenQ P r y Q) E) : T P r c L (.cond cd x1 x2) (thenQ P r y Q) E := h
theorem _root_.Pw.T.atSR {P : Program} {r : Rd} {c : Ctx} {L : List Assn} {Q : Exit → Env → Rd → World → Prop} {E : Env} (id : Nat) {ops : Array Oper} {dr : Bool} {y : Code} (h : T P r c L (.seq (.region id ops dr) y) Q E) : T P r c L (.seq (.region id ops dr) y) Q E := h
theorem finAt {c : Ctx} {L R : List Assn} {B : Value → List Assn → Prop} {v : Value} (h : Fini c L R B v) : Fini c L R B v := h
theorem TQ.atL {r : Rd} {c : Ctx} {L : List Assn} {Q : Exit → Env → Rd → World → Prop} {E : Env} {S : Type} {n : Nat} {sl : S → List (Nat × Value)} {H : S → List Assn} {I : S → Prop} {μ : S → Nat} {s : S} (h : TQ r c L (loopQ r c n sl H I μ s Q) .normal E) : TQ r c L (loopQ r c n sl H I μ s Q) .normal E := h
theorem _root_.Pw.T.cutR {P : Program} {r : Rd} {c : Ctx} {L : List Assn} {Q : Exit → Env → Rd → World → Prop} (id : Nat) {n : Nat} {l0 : List (Nat × Value)} {g0 : Nat → Value} {S : Type} {ops : Array Oper} {dr : Bool} {y : Code} (sl : S → List (Nat × Value)) (H : S → List Assn) (I : S → Prop)
    (h : T P r c L (.region id ops dr) (cutQ r c n sl H I Q) ⟨n, l0, g0⟩) (k : ∀ s g, I s → T P r c (H s) y Q ⟨n, sl s, g⟩) : T P r c L (.seq (.region id ops dr) y) Q ⟨n, l0, g0⟩ := T.cut sl H I h k
theorem _root_.Pw.T.cutC {P : Program} {r : Rd} {c : Ctx} {L : List Assn} {Q : Exit → Env → Rd → World → Prop} (cd : Operand) {n : Nat} {l0 : List (Nat × Value)} {g0 : Nat → Value} {S : Type} {x1 x2 y : Code} (sl : S → List (Nat × Value)) (H : S → List Assn) (I : S → Prop)
    (h : T P r c L (.cond cd x1 x2) (cutQ r c n sl H I Q) ⟨n, l0, g0⟩) (k : ∀ s g, I s → T P r c (H s) y Q ⟨n, sl s, g⟩) : T P r c L (.cond cd x1 x2) (thenQ P r y Q) ⟨n, l0, g0⟩ := by
  unfold T at *
  intro w hw
  refine wpIn_mono (h w hw) ?_
  rintro e a w' ⟨E', r', rfl, hq⟩
  cases e with
  | normal =>
    obtain ⟨rfl, s, en, hh, hI, hw'⟩ := hq
    refine ⟨_, _, Env.acd_congr (E'.act_has (sl s) hh) _, ?_⟩
    rw [en]
    exact k s _ hI w' hw'
  | _ => exact ⟨E', r', rfl, hq⟩

class MemAt (L : List Assn) (p : Nat) (bs : outParam (List UInt8)) (lt : outParam (List Bool)) (R : outParam (List Assn)) : Prop where h : Del (memA p bs lt) L R
instance (priority := 1100) {L : List Assn} {p : Nat} {bs : List UInt8} {lt : List Bool} : MemAt (memA p bs lt :: L) p bs lt L := ⟨.head _ _⟩
instance {A : Assn} {L R : List Assn} {p : Nat} {bs : List UInt8} {lt : List Bool} [h : MemAt L p bs lt R] : MemAt (A :: L) p bs lt (A :: R) := ⟨.tail h.h⟩
instance {L R : List Assn} {p : Nat} {bs : List UInt8} {lt : List Bool} {x : Int} {a : Nat} {n : Int} [hm : MemAt L p bs lt R] [hx : Nn x a] : FnR Try.prog 21 [.pointer (some ⟨p, 0, none⟩), .int .u32 x, .int .i64 n] L (fun kk => Vc (a < 4294967296 ∧ n < 9223372036854775808) (kk (asResult [str (readE bs a n).1, .int .i64 ((readE bs a n).2 : Nat)]) (memA p bs lt :: R))) :=
  ⟨fun kk h => ⟨_, R, _, by rw [hx.h]; exact readA p a n bs lt h.l.1 h.l.2, .cons hm.h (.nil _), fun v L' hv => by rw [hv.1, hv.2]; exact h.r⟩⟩
instance {L R : List Assn} {p : Nat} {bs : List UInt8} {lt : List Bool} {x : Int} {a : Nat} [hm : MemAt L p bs lt R] [hx : Nn x a] : FnR Try.prog 13 [.pointer (some ⟨p, 0, none⟩), .int .u32 x] L (fun kk => Vc (a < 4294967296) (kk (asResult [.int .u16 ((numE bs a 2).1 : Nat), .int .i64 ((numE bs a 2).2 : Nat)]) (memA p bs lt :: R))) :=
  ⟨fun kk h => ⟨_, R, _, by rw [hx.h]; exact u16A p a bs lt h.l, .cons hm.h (.nil _), fun v L' hv => by rw [hv.1, hv.2]; exact h.r⟩⟩
instance {L R : List Assn} {p : Nat} {bs : List UInt8} {lt : List Bool} {x : Int} {a : Nat} [hm : MemAt L p bs lt R] [hx : Nn x a] : FnR Try.prog 78 [.pointer (some ⟨p, 0, none⟩), .int .u32 x] L (fun kk => Vc (a < 4294967296) (kk (asResult [.int .u32 ((numE bs a 4).1 : Nat), .int .i64 ((numE bs a 4).2 : Nat)]) (memA p bs lt :: R))) :=
  ⟨fun kk h => ⟨_, R, _, by rw [hx.h]; exact u32A p a bs lt h.l, .cons hm.h (.nil _), fun v L' hv => by rw [hv.1, hv.2]; exact h.r⟩⟩
instance {L R : List Assn} {p : Nat} {bs : List UInt8} {lt : List Bool} {x : Int} {a : Nat} {s : List UInt8} [hm : MemAt L p bs lt R] [hx : Nn x a] : FnR Try.prog 31 [.pointer (some ⟨p, 0, none⟩), .int .u32 x, str s] L (fun kk => Vc (a < 4294967296 ∧ s.length < 9223372036854775808) (kk (.int .i64 ((writeE bs lt a s false 11).1 : Nat)) (memA p (writeE bs lt a s false 11).2 lt :: R))) :=
  ⟨fun kk h => ⟨_, R, _, by rw [hx.h]; exact writeA p a s bs lt h.l.1 h.l.2, .cons hm.h (.nil _), fun v L' hv => by rw [hv.1, hv.2]; exact h.r⟩⟩
instance {L R : List Assn} {p : Nat} {bs : List UInt8} {lt : List Bool} {x : Int} {a : Nat} {s : List UInt8} [hm : MemAt L p bs lt R] [hx : Nn x a] : FnR Try.prog 35 [.pointer (some ⟨p, 0, none⟩), .int .u32 x, str s] L (fun kk => Vc (a < 4294967296 ∧ s.length < 9223372036854775808) (kk (.int .i64 ((writeE bs lt a s true 12).1 : Nat)) (memA p (writeE bs lt a s true 12).2 lt :: R))) :=
  ⟨fun kk h => ⟨_, R, _, by rw [hx.h]; exact deviceA p a s bs lt h.l.1 h.l.2, .cons hm.h (.nil _), fun v L' hv => by rw [hv.1, hv.2]; exact h.r⟩⟩
instance {L R : List Assn} {p : Nat} {bs : List UInt8} {lt : List Bool} {x : Int} {a : Nat} {y : Int} {b : Nat} [hm : MemAt L p bs lt R] [hx : Nn x a] [hy : Nn y b] : FnR Try.prog 53 [.pointer (some ⟨p, 0, none⟩), .int .u32 x, .int .u16 y] L (fun kk => Vc (a < 4294967296 ∧ b < 65536) (kk (.int .i64 ((writeE bs lt a (leB b 2) false 11).1 : Nat)) (memA p (writeE bs lt a (leB b 2) false 11).2 lt :: R))) :=
  ⟨fun kk h => ⟨_, R, _, by rw [hx.h, hy.h]; exact put16A p a b bs lt h.l.1 h.l.2, .cons hm.h (.nil _), fun v L' hv => by rw [hv.1, hv.2]; exact h.r⟩⟩
instance {L R : List Assn} {p : Nat} {bs : List UInt8} {lt : List Bool} {x : Int} {a : Nat} {y : Int} {b : Nat} [hm : MemAt L p bs lt R] [hx : Nn x a] [hy : Nn y b] : FnR Try.prog 71 [.pointer (some ⟨p, 0, none⟩), .int .u32 x, .int .u32 y] L (fun kk => Vc (a < 4294967296 ∧ b < 4294967296) (kk (.int .i64 ((writeE bs lt a (leB b 4) false 11).1 : Nat)) (memA p (writeE bs lt a (leB b 4) false 11).2 lt :: R))) :=
  ⟨fun kk h => ⟨_, R, _, by rw [hx.h, hy.h]; exact put32A p a b bs lt h.l.1 h.l.2, .cons hm.h (.nil _), fun v L' hv => by rw [hv.1, hv.2]; exact h.r⟩⟩
instance {L R : List Assn} {p : Nat} {bs : List UInt8} {lt : List Bool} {x : Int} {a : Nat} {y : Int} {b : Nat} [hm : MemAt L p bs lt R] [hx : Nn x a] [hy : Nn y b] : FnR Try.prog 30 [.pointer (some ⟨p, 0, none⟩), .int .u32 x, .int .u64 y] L (fun kk => Vc (a < 4294967296 ∧ b < 18446744073709551616) (kk (.int .i64 ((writeE bs lt a (leB b 8) false 11).1 : Nat)) (memA p (writeE bs lt a (leB b 8) false 11).2 lt :: R))) :=
  ⟨fun kk h => ⟨_, R, _, by rw [hx.h, hy.h]; exact put64A p a b bs lt h.l.1 h.l.2, .cons hm.h (.nil _), fun v L' hv => by rw [hv.1, hv.2]; exact h.r⟩⟩
instance {L R : List Assn} {p : Nat} {bs : List UInt8} {lt : List Bool} {x : Int} {a : Nat} {y : Int} {l : Nat} [hm : MemAt L p bs lt R] [hx : Nn x a] [hy : Nn y l] : FnR Try.prog 44 [.pointer (some ⟨p, 0, none⟩), .agg #[.int .u32 x, .int .u32 y]] L (fun kk => Vc (a < 4294967296 ∧ l < 4294967296) (kk (.int .i64 ((turnE lt a l true 11).1 : Nat)) (memA p bs (turnE lt a l true 11).2 :: R))) :=
  ⟨fun kk h => ⟨_, R, _, by rw [hx.h, hy.h]; exact lendA p a l bs lt h.l.1 h.l.2, .cons hm.h (.nil _), fun v L' hv => by rw [hv.1, hv.2]; exact h.r⟩⟩
instance {L R : List Assn} {p : Nat} {bs : List UInt8} {lt : List Bool} {x : Int} {a : Nat} {y : Int} {l : Nat} [hm : MemAt L p bs lt R] [hx : Nn x a] [hy : Nn y l] : FnR Try.prog 81 [.pointer (some ⟨p, 0, none⟩), .agg #[.int .u32 x, .int .u32 y]] L (fun kk => Vc (a < 4294967296 ∧ l < 4294967296) (kk (.int .i64 ((turnE lt a l false 12).1 : Nat)) (memA p bs (turnE lt a l false 12).2 :: R))) :=
  ⟨fun kk h => ⟨_, R, _, by rw [hx.h, hy.h]; exact backA p a l bs lt h.l.1 h.l.2, .cons hm.h (.nil _), fun v L' hv => by rw [hv.1, hv.2]; exact h.r⟩⟩
instance {L R : List Assn} {p : Nat} {bs : List UInt8} {lt : List Bool}  [hm : MemAt L p bs lt R] : FnR Try.prog 67 [.pointer (some ⟨p, 0, none⟩)] L (fun kk => Vc (True) (kk (.int .i64 (bs.length : Nat)) (memA p bs lt :: R))) :=
  ⟨fun kk h => ⟨_, R, _, sizeA p bs lt, .cons hm.h (.nil _), fun v L' hv => by rw [hv.1, hv.2]; exact h.r⟩⟩
def partN (n : Nat) : Nat := (16 * n + 6 + 2 * n + 3) / 4 * 4
theorem part_spec (n : Nat) (h : n ≤ 256) :
    Sat Try.prog 43 [.int .i64 (n : Nat)] [] (fun u L' => u = .int .i64 (partN n : Nat) ∧ L' = []) := by
  all_goals
    refine Sat.enter Try.func43 rfl Try.ntmps43 rfl (fun c R => ?_)
    try simp only [List.cons_append, List.nil_append]
    repeat' (first
      | (exact Fini.of ⟨rfl, rfl⟩ (by repeat first | exact Imp.refl _ | (apply Imp.pull; focus ((repeat first | exact Del.head _ _ | apply Del.tail); done)) | apply Imp.drop))
      | refine And.intro (fun hc => ?_) (fun hc => ?_)
      | refine And.intro ?_ ?_
      | intro b
      | refine stp ?_
      | refine TQ.finC ?_
      | refine TQ.finC2 ?_
      | refine TQ.finC3 ?_
      | refine ⟨fun hc => ?_, fun hc => ?_⟩
      | refine Ei.f ?_
      | refine ⟨?_, ?_⟩
      | intro b
      | exact absurd rfl hc
      | exact absurd hc (by decide)
      | omega
      | (dsimp only; omega)
      | fail)
instance {L : List Assn} {x : Int} {n : Nat} [hx : Nn x n] : FnR Try.prog 43 [.int .i64 x] L (fun kk => Vc (n ≤ 256) (kk (.int .i64 (partN n : Nat)) L)) := ⟨fun kk h => ⟨[], L, _, by rw [hx.h]; exact part_spec n h.l, .nil _, fun v L' hq => by rw [hq.1, hq.2]; exact h.r⟩⟩

end Go.Proofs.Ytfgpnipnaaeafaa


namespace Go.Proofs.Ytfgpnipnaaeafaa
open Go Pw
set_option maxRecDepth 20000
set_option maxHeartbeats 4000000
set_option synthInstance.maxHeartbeats 400000
set_option synthInstance.maxSize 4000
set_option maxHeartbeats 4000000

/-- A number as Size takes it. -/
def szI (n : Int) : Int := n
def andI (x y : Int) : Int := IntKind.i64.wrap (((BitVec.ofInt IntKind.i64.bits x &&& BitVec.ofInt IntKind.i64.bits y).toNat : Nat) : Int)
instance (priority := 1300) {t : TypeId} {n y : Int} : Pu Try.prog (.bin .sub t (.int .i64 (szI n)) (.int .i64 y)) (fun q => q (.int .i64 (IntKind.i64.wrap (szI n - y)))) :=
  ⟨fun E d op ty pos af g hr q hk => by cases hr with | bin e1 e2 => exact ⟨_, DP.subX e1 e2, hk⟩⟩
instance (priority := 1300) {t : TypeId} {n y : Int} : Pu Try.prog (.bin .and t (.int .i64 (szI n)) (.int .i64 y)) (fun q => q (.int .i64 (andI (szI n) y))) :=
  ⟨fun E d op ty pos af g hr q hk => by
    cases hr with
    | bin h1 h2 => exact ⟨_, by unfold DP; exact ⟨fun _ => by simp, fun w => by simp only [execOp, h1, h2, eqGuard_and, binOp_and, Op.intBits, andI]; simp⟩, hk⟩⟩
def sizeE (n : Int) : Nat := if szI n < 1 ∨ 256 < szI n ∨ andI (szI n) (IntKind.i64.wrap (szI n - 1)) ≠ 0 then 0 else partN (szI n).toNat + 6 + 8 * (szI n).toNat
theorem partN_le {n : Nat} (h : n ≤ 256) : partN n ≤ 4617 := by unfold partN; omega
theorem vS {x : Int} {y : Nat} (e : x = y) : Value.int .i64 x = Value.int .i64 (y : Int) := by rw [e]
attribute [local irreducible] andI szI
theorem size_any (n : Int) :
    Sat Try.prog 24 [.int .i64 (szI n)] [] (fun u L' => u = .int .i64 (sizeE n : Nat) ∧ L' = []) := by
  have hgo : True := trivial
  all_goals
    refine Sat.enter Try.func24 rfl Try.ntmps24 rfl (fun c R => ?_)
    try simp only [List.cons_append, List.nil_append]
    repeat' (first
      | (refine T.atR 3 ?_; clear hgo; obtain ⟨m, hm⟩ : ∃ m : Nat, szI n = (m : Int) := ⟨(szI n).toNat, by omega⟩; rw [hm]; have hpl := partN_le (n := m) (by omega))
      | (exact Fini.of ⟨vS (by unfold sizeE; rw [if_pos (by omega)]; rfl), rfl⟩ (by repeat first | exact Imp.refl _ | (apply Imp.pull; focus ((repeat first | exact Del.head _ _ | apply Del.tail); done)) | apply Imp.drop))
      | (exact Fini.of ⟨vS (by unfold sizeE; rw [if_neg (by omega), hm, Int.toNat_natCast]), rfl⟩ (by repeat first | exact Imp.refl _ | (apply Imp.pull; focus ((repeat first | exact Del.head _ _ | apply Del.tail); done)) | apply Imp.drop))
      | refine And.intro (fun hc => ?_) (fun hc => ?_)
      | refine And.intro ?_ ?_
      | intro b
      | refine stp ?_
      | refine TQ.finC ?_
      | refine TQ.finC2 ?_
      | refine TQ.finC3 ?_
      | refine ⟨fun hc => ?_, fun hc => ?_⟩
      | refine Ei.f ?_
      | refine ⟨?_, ?_⟩
      | intro b
      | exact absurd rfl hc
      | exact absurd hc (by decide)
      | omega
      | (dsimp only; omega)
      | fail)
theorem rsize_spec (n : Int) : Sat Try.prog 24 [.int .i64 n] [] (fun u L' => u = .int .i64 (sizeE n : Nat) ∧ L' = []) := by
  have h := size_any n
  unfold szI at h
  exact h
instance {L : List Assn} {x : Int} : FnR Try.prog 24 [.int .i64 x] L (fun kk => kk (.int .i64 (sizeE x : Nat)) L) := ⟨fun kk h => ⟨[], L, _, rsize_spec x, .nil _, fun v L' hv => by rw [hv.1, hv.2]; exact h⟩⟩

end Go.Proofs.Ytfgpnipnaaeafaa


namespace Go.Proofs.Ytfgpnipnaaeafaa
open Go Pw
set_option maxRecDepth 20000
set_option maxHeartbeats 4000000
set_option synthInstance.maxHeartbeats 400000
set_option synthInstance.maxSize 4000
set_option maxHeartbeats 4000000

abbrev boolV' (b : Bool) : Value := .bool b
def cntF (l : List Bool) (i : Nat) : Nat := ((l.take i).filter (fun b => !b)).length
theorem cntF_no {l : List Bool} {i : Nat} (h : i < l.length) (hb : gt l i = true) : cntF l i = cntF l (i + 1) := by
  unfold cntF; rw [List.take_add_one, gt_get h]; simp [hb]
theorem cntF_yes {l : List Bool} {i : Nat} (h : i < l.length) (hb : gt l i = false) : cntF l i + 1 = cntF l (i + 1) := by
  unfold cntF; rw [List.take_add_one, gt_get h]; simp [hb]
theorem cntF_le {l : List Bool} {i : Nat} : cntF l i ≤ i := by
  unfold cntF
  refine Nat.le_trans (List.length_filter_le _ _) ?_
  rw [List.length_take]; omega
theorem vN2 {x y : Nat} (e : x = y) : Value.int .i64 (x : Int) = Value.int .i64 (y : Int) := by rw [e]
theorem used_spec (r at_ n nx ls : Nat) (vm vp vt : Value) (br : Bool) (hn : n ≤ 256) (ha : at_ ≤ 1048576) :
    Sat Try.prog 36 [.pointer (some ⟨r, 0, none⟩)] [row 84 r [vm, .int .u32 at_, .int .i64 n, vp, vt, .int .u16 nx, .int .u16 ls, .bool br]] (fun u L' => u = .int .u32 (at_ + partN n : Nat) ∧ L' = [row 84 r [vm, .int .u32 at_, .int .i64 n, vp, vt, .int .u16 nx, .int .u16 ls, .bool br]]) := by
  have hpl := partN_le hn
  all_goals
    refine Sat.enter Try.func36 rfl Try.ntmps36 rfl (fun c R => ?_)
    try simp only [List.cons_append, List.nil_append]
    repeat' (first
      | (exact Fini.of ⟨rfl, rfl⟩ (by repeat first | exact Imp.refl _ | (apply Imp.pull; focus ((repeat first | exact Del.head _ _ | apply Del.tail); done)) | apply Imp.drop))
      | refine T.pl 3 [8] (.p 0 (.p 1 (.p 4 (.p 5 (.d 6 (.d 7 (.p 2 (.b2 3 (.n 8 (.p 9 (.p 10 (.p 11 .fin)))) 8 (.p 9 (.d 3 (.p 10 (.p 11 .fin)))))))))))) ?_
      | refine And.intro (fun hc => ?_) (fun hc => ?_)
      | refine And.intro ?_ ?_
      | intro b
      | refine stp ?_
      | refine TQ.finC ?_
      | refine TQ.finC2 ?_
      | refine TQ.finC3 ?_
      | refine ⟨fun hc => ?_, fun hc => ?_⟩
      | refine Ei.f ?_
      | refine ⟨?_, ?_⟩
      | intro b
      | exact absurd rfl hc
      | exact absurd hc (by decide)
      | omega
      | (dsimp only; omega)
      | fail)
theorem avail_spec (r at_ n nx ls : Nat) (vm vp vt : Value) (br : Bool) (hn : n ≤ 256) (ha : at_ ≤ 1048576) :
    Sat Try.prog 14 [.pointer (some ⟨r, 0, none⟩)] [row 84 r [vm, .int .u32 at_, .int .i64 n, vp, vt, .int .u16 nx, .int .u16 ls, .bool br]] (fun u L' => u = .int .u32 (at_ + 16 * n : Nat) ∧ L' = [row 84 r [vm, .int .u32 at_, .int .i64 n, vp, vt, .int .u16 nx, .int .u16 ls, .bool br]]) := by
  all_goals
    refine Sat.enter Try.func14 rfl Try.ntmps14 rfl (fun c R => ?_)
    try simp only [List.cons_append, List.nil_append]
    repeat' (first
      | (exact Fini.of ⟨rfl, rfl⟩ (by repeat first | exact Imp.refl _ | (apply Imp.pull; focus ((repeat first | exact Del.head _ _ | apply Del.tail); done)) | apply Imp.drop))
      | refine T.pl 3 [] (.p 0 (.p 1 (.p 4 (.p 5 (.d 2 (.d 3 (.d 6 (.d 7 (.p 8 (.p 9 (.p 10 (.p 11 .fin)))))))))))) ?_
      | refine And.intro (fun hc => ?_) (fun hc => ?_)
      | refine And.intro ?_ ?_
      | intro b
      | refine stp ?_
      | refine TQ.finC ?_
      | refine TQ.finC2 ?_
      | refine TQ.finC3 ?_
      | refine ⟨fun hc => ?_, fun hc => ?_⟩
      | refine Ei.f ?_
      | refine ⟨?_, ?_⟩
      | intro b
      | exact absurd rfl hc
      | exact absurd hc (by decide)
      | omega
      | (dsimp only; omega)
      | fail)
theorem used_nil  :
    Sat Try.prog 36 [.pointer none] [] (fun u L' => u = .int .u32 0 ∧ L' = []) := by
  all_goals
    refine Sat.enter Try.func36 rfl Try.ntmps36 rfl (fun c R => ?_)
    try simp only [List.cons_append, List.nil_append]
    repeat' (first
      | (exact Fini.of ⟨rfl, rfl⟩ (by repeat first | exact Imp.refl _ | (apply Imp.pull; focus ((repeat first | exact Del.head _ _ | apply Del.tail); done)) | apply Imp.drop))
      | refine T.pl 3 [8] (.p 0 (.p 1 (.p 4 (.p 5 (.d 6 (.d 7 (.p 2 (.b2 3 (.n 8 (.p 9 (.p 10 (.p 11 .fin)))) 8 (.p 9 (.d 3 (.p 10 (.p 11 .fin)))))))))))) ?_
      | refine And.intro (fun hc => ?_) (fun hc => ?_)
      | refine And.intro ?_ ?_
      | intro b
      | refine stp ?_
      | refine TQ.finC ?_
      | refine TQ.finC2 ?_
      | refine TQ.finC3 ?_
      | refine ⟨fun hc => ?_, fun hc => ?_⟩
      | refine Ei.f ?_
      | refine ⟨?_, ?_⟩
      | intro b
      | exact absurd rfl hc
      | exact absurd hc (by decide)
      | omega
      | (dsimp only; omega)
      | fail)
theorem avail_nil  :
    Sat Try.prog 14 [.pointer none] [] (fun u L' => u = .int .u32 0 ∧ L' = []) := by
  all_goals
    refine Sat.enter Try.func14 rfl Try.ntmps14 rfl (fun c R => ?_)
    try simp only [List.cons_append, List.nil_append]
    repeat' (first
      | (exact Fini.of ⟨rfl, rfl⟩ (by repeat first | exact Imp.refl _ | (apply Imp.pull; focus ((repeat first | exact Del.head _ _ | apply Del.tail); done)) | apply Imp.drop))
      | refine T.pl 3 [] (.p 0 (.p 1 (.p 4 (.p 5 (.d 2 (.d 3 (.d 6 (.d 7 (.p 8 (.p 9 (.p 10 (.p 11 .fin)))))))))))) ?_
      | refine And.intro (fun hc => ?_) (fun hc => ?_)
      | refine And.intro ?_ ?_
      | intro b
      | refine stp ?_
      | refine TQ.finC ?_
      | refine TQ.finC2 ?_
      | refine TQ.finC3 ?_
      | refine ⟨fun hc => ?_, fun hc => ?_⟩
      | refine Ei.f ?_
      | refine ⟨?_, ?_⟩
      | intro b
      | exact absurd rfl hc
      | exact absurd hc (by decide)
      | omega
      | (dsimp only; omega)
      | fail)
theorem left_nil  :
    Sat Try.prog 68 [.pointer none] [] (fun u L' => u = .int .i64 0 ∧ L' = []) := by
  all_goals
    refine Sat.enter Try.func68 rfl Try.ntmps68 rfl (fun c R => ?_)
    try simp only [List.cons_append, List.nil_append]
    repeat' (first
      | (exact Fini.of ⟨rfl, rfl⟩ (by repeat first | exact Imp.refl _ | (apply Imp.pull; focus ((repeat first | exact Del.head _ _ | apply Del.tail); done)) | apply Imp.drop))
      | refine And.intro (fun hc => ?_) (fun hc => ?_)
      | refine And.intro ?_ ?_
      | intro b
      | refine stp ?_
      | refine TQ.finC ?_
      | refine TQ.finC2 ?_
      | refine TQ.finC3 ?_
      | refine ⟨fun hc => ?_, fun hc => ?_⟩
      | refine Ei.f ?_
      | refine ⟨?_, ?_⟩
      | intro b
      | exact absurd rfl hc
      | exact absurd hc (by decide)
      | omega
      | (dsimp only; omega)
      | fail)

end Go.Proofs.Ytfgpnipnaaeafaa


namespace Go.Proofs.Ytfgpnipnaaeafaa
open Go Pw
set_option maxRecDepth 20000
set_option maxHeartbeats 4000000
set_option synthInstance.maxHeartbeats 400000
set_option synthInstance.maxSize 4000
set_option maxHeartbeats 4000000

/-- The first that is free, from a place on. -/
def nxtF (tk : List Bool) (i : Nat) : Nat := i + (tk.drop i).findIdx (fun b => !b)
theorem nxt_at {tk : List Bool} {i j : Nat} (hij : i ≤ j) (hj : j < tk.length) (h : gt tk j = false) (hall : ∀ m, i ≤ m → m < j → gt tk m = true) : j = nxtF tk i := by
  unfold nxtF
  have e : (tk.drop i).findIdx (fun b => !b) = j - i := by
    rw [List.findIdx_eq (by rw [List.length_drop]; omega)]
    constructor
    · have h1 := gt_get hj
      rw [List.getElem?_eq_getElem hj] at h1
      have h2 : tk[j] = gt tk j := Option.some.inj h1
      simp [List.getElem_drop, show i + (j - i) = j by omega, h2, h]
    · intro m hm
      have h0 := hall (i + m) (by omega) (by omega)
      have h1 := gt_get (show i + m < tk.length by omega)
      rw [List.getElem?_eq_getElem (show i + m < tk.length by omega)] at h1
      have h2 : tk[i + m] = gt tk (i + m) := Option.some.inj h1
      simp [List.getElem_drop, h2, h0]
  omega
theorem left_spec (r at_ n nx ls k : Nat) (vm vp : Value) (br : Bool) (a : Option Addr) (tk : List Bool) (hk : tk.length ≤ 256) :
    Sat Try.prog 68 [.pointer (some ⟨r, 0, none⟩)] [row 84 r [vm, .int .u32 at_, .int .i64 n, vp, .slice a tk.length k, .int .u16 nx, .int .u16 ls, .bool br], Pw.sl 4 (0 + 1) (.slice a tk.length k) tk.length (tk.map Value.bool)] (fun u L' => u = .int .i64 (cntF tk tk.length : Nat) ∧ L' = [row 84 r [vm, .int .u32 at_, .int .i64 n, vp, .slice a tk.length k, .int .u16 nx, .int .u16 ls, .bool br], Pw.sl 4 (0 + 1) (.slice a tk.length k) tk.length (tk.map Value.bool)]) := by
  all_goals
    refine Sat.enter Try.func68 rfl Try.ntmps68 rfl (fun c R => ?_)
    try simp only [List.cons_append, List.nil_append]
    repeat' (first
      | (refine T.atB 0 ?_; refine T.lpa 0 [(0, _), (11, _), (12, _)] (0 : Nat) (fun i => [(3, .int .i64 (cntF tk i : Nat)), (13, .int .i64 (i : Nat))]) (fun _ => []) (fun i => i ≤ tk.length) (fun i => tk.length - i) (Nat.zero_le _) ?_; rintro i g hi; have hcl := cntF_le (l := tk) (i := i); simp only [List.cons_append, List.nil_append, appR])
      | (refine TQ.atL ?_; have h9 := ‹(!gt tk i) = true›; have h8 : gt tk i = false := (by cases hb_ : gt tk i <;> simp_all); refine TQ.rd (i + 1 : Nat) rfl ⟨vN2 (cntF_yes ‹i < tk.length› h8), rfl, rfl, rfl, rfl, trivial⟩ (by omega) (by omega) (Ent.imp (by repeat first | exact Imp.refl _ | (apply Imp.pull; focus ((repeat first | exact Del.head _ _ | apply Del.tail); done)) | apply Imp.drop)))
      | (refine TQ.atL ?_; have h9 := ‹(!gt tk i) = false›; have h8 : gt tk i = true := (by cases hb_ : gt tk i <;> simp_all); refine TQ.rd (i + 1 : Nat) rfl ⟨vN2 (cntF_no ‹i < tk.length› h8), rfl, rfl, rfl, rfl, trivial⟩ (by omega) (by omega) (Ent.imp (by repeat first | exact Imp.refl _ | (apply Imp.pull; focus ((repeat first | exact Del.head _ _ | apply Del.tail); done)) | apply Imp.drop)))
      | (refine T.atR 10 ?_; obtain rfl : i = tk.length := (by omega))
      | (exact Fini.of ⟨rfl, rfl⟩ (by repeat first | exact Imp.refl _ | (apply Imp.pull; focus ((repeat first | exact Del.head _ _ | apply Del.tail); done)) | apply Imp.drop))
      | refine And.intro (fun hc => ?_) (fun hc => ?_)
      | refine And.intro ?_ ?_
      | intro b
      | refine stp ?_
      | refine TQ.finC ?_
      | refine TQ.finC2 ?_
      | refine TQ.finC3 ?_
      | refine ⟨fun hc => ?_, fun hc => ?_⟩
      | refine Ei.f ?_
      | refine ⟨?_, ?_⟩
      | intro b
      | exact absurd rfl hc
      | exact absurd hc (by decide)
      | omega
      | (dsimp only; omega)
      | fail)

end Go.Proofs.Ytfgpnipnaaeafaa


namespace Go.Proofs.Ytfgpnipnaaeafaa
open Go Pw
set_option maxRecDepth 20000
set_option maxHeartbeats 4000000
set_option synthInstance.maxHeartbeats 400000
set_option synthInstance.maxSize 4000
set_option maxHeartbeats 4000000
instance {b : Bool} : Inv Value.bool (.bool b) b True := ⟨fun _ => rfl⟩
theorem next_spec (ci bx r at_ n nx ls k i m0 : Nat) (x : Int) (vm vp : Value) (br : Bool) (a : Option Addr) (tk : List Bool) (hk : tk.length ≤ 256) (hx : x + 1 = (i : Int)) (h1 : i ≤ m0) (h2 : m0 < tk.length) (h3 : gt tk m0 = false) :
    Sat Try.prog 70 [.pointer (some ⟨ci, 0, none⟩), .pointer (some ⟨bx, 0, none⟩)] [row 3 ci [.int .i64 x], row 37 bx [.pointer (some ⟨r, 0, none⟩)], row 84 r [vm, .int .u32 at_, .int .i64 n, vp, .slice a tk.length k, .int .u16 nx, .int .u16 ls, .bool br], Pw.sl 4 (0 + 1) (.slice a tk.length k) tk.length (tk.map Value.bool)] (fun u L' => u = .int .u16 (nxtF tk i : Nat) ∧ L' = [row 3 ci [.int .i64 (nxtF tk i : Nat)], row 37 bx [.pointer (some ⟨r, 0, none⟩)], row 84 r [vm, .int .u32 at_, .int .i64 n, vp, .slice a tk.length k, .int .u16 nx, .int .u16 ls, .bool br], Pw.sl 4 (0 + 1) (.slice a tk.length k) tk.length ((tk.set (nxtF tk i) true).map Value.bool)]) := by
  have hgo : True := trivial
  all_goals
    refine Sat.enter Try.func70 rfl Try.ntmps70 rfl (fun c R => ?_)
    try simp only [List.cons_append, List.nil_append]
    repeat' (first
      | (refine T.atB 0 ?_; rw [hx]; refine T.lpa 0 [(0, _), (1, _)] (i : Nat) (fun _ => []) (fun z => [row 3 ci [.int .i64 (z : Nat)]]) (fun z => i ≤ z ∧ z ≤ m0 ∧ ∀ m, i ≤ m → m < z → gt tk m = true) (fun z => tk.length - z) ⟨Nat.le_refl _, h1, fun m a b => by omega⟩ ?_; rintro z g ⟨hz1, hz2, hz3⟩; simp only [List.cons_append, List.nil_append, appR])
      | (refine TQ.atL ?_; refine TQ.rd (z + 1 : Nat) rfl ⟨rfl, rfl, trivial⟩ ⟨by omega, Nat.lt_of_le_of_ne hz2 (fun e => by have h9 := ‹gt tk z = true›; rw [e, h3] at h9; cases h9), fun m a b => (by rcases Nat.lt_or_eq_of_le (Nat.le_of_lt_succ b) with h | h; exact hz3 m a h; rw [h]; assumption)⟩ (by omega) (Ent.imp (by repeat first | exact Imp.refl _ | (apply Imp.pull; focus ((repeat first | exact Del.head _ _ | apply Del.tail); done)) | apply Imp.drop)))
      | (refine T.atR 4 ?_; clear hgo; obtain rfl : z = nxtF tk i := nxt_at hz1 (by omega) (by assumption) hz3; have hgn : True := trivial)
      | (exact Fini.of ⟨rfl, rfl⟩ (by repeat first | exact Imp.refl _ | (apply Imp.pull; focus ((repeat first | exact Del.head _ _ | apply Del.tail); done)) | apply Imp.drop))
      | (refine finAt ?_; rw [List.length_set]; exact Fini.of ⟨rfl, rfl⟩ (by repeat first | exact Imp.refl _ | (apply Imp.pull; focus ((repeat first | exact Del.head _ _ | apply Del.tail); done)) | apply Imp.drop))
      | (simp only [IntKind.lim, IntKind.signed, IntKind.bits, if_true]; omega)
      | refine T.pl 2 [] (.d 0 (.p 1 (.d 2 (.d 3 (.d 4 (.d 5 (.d 6 .fin))))))) ?_
      | refine T.pl 4 [6] (.d 0 (.p 1 (.d 2 (.d 3 (.d 4 (.d 5 (.n 6 .fin))))))) ?_
      | refine And.intro (fun hc => ?_) (fun hc => ?_)
      | refine And.intro ?_ ?_
      | intro b
      | refine stp ?_
      | refine TQ.finC ?_
      | refine TQ.finC2 ?_
      | refine TQ.finC3 ?_
      | refine ⟨fun hc => ?_, fun hc => ?_⟩
      | refine Ei.f ?_
      | refine ⟨?_, ?_⟩
      | intro b
      | exact absurd rfl hc
      | exact absurd hc (by decide)
      | omega
      | (dsimp only; omega)
      | fail)

end Go.Proofs.Ytfgpnipnaaeafaa


namespace Go.Proofs.Ytfgpnipnaaeafaa
open Go Pw
set_option maxRecDepth 20000
set_option maxHeartbeats 4000000
set_option synthInstance.maxHeartbeats 400000
set_option synthInstance.maxSize 4000
set_option maxHeartbeats 4000000

structure Bf where
  (at_ len : Nat) (inn : Bool)
instance : Inhabited Bf := ⟨⟨0, 0, false⟩⟩
abbrev bufV (b : Bf) : List Value := [.int .u32 b.at_, .int .u32 b.len, .bool b.inn]
instance : FLen bufV 3 := ⟨fun _ => rfl⟩
instance : FLen bufV (2 + 1) := ⟨fun _ => rfl⟩
structure Bf.ok (b : Bf) : Prop where
  at_ : b.at_ < 4294967296
  len : b.len < 4294967296
/-- What is lent, once buffers came back. -/
def bkS (lt : List Bool) (b : Bf) : List Bool := if b.inn then (turnE lt b.at_ b.len false 12).2 else lt
def bkE (lt : List Bool) (l : List Bf) : Nat → List Bool
  | 0 => lt
  | i + 1 => bkS (bkE lt l i) (gt l i)
theorem bk_yes {lt : List Bool} {l : List Bf} {i : Nat} (h : (gt l i).inn = true) : (turnE (bkE lt l i) (gt l i).at_ (gt l i).len false 12).2 = bkE lt l (i + 1) := (if_pos h).symm
theorem bk_no {lt : List Bool} {l : List Bf} {i : Nat} (h : (gt l i).inn = false) : bkE lt l i = bkE lt l (i + 1) := (if_neg (by rw [h]; exact Bool.false_ne_true)).symm
theorem gt_all' {α : Type} [Inhabited α] {l : List α} {q : α → Prop} (h : ∀ t ∈ l, q t) {j : Nat} (hj : j < l.length) : q (gt l j) := h _ (List.mem_of_getElem? (gt_get hj))
theorem imp_bk {p : Nat} {bs : List UInt8} {lt : List Bool} (l : List Bf) {L R : List Assn} (h : Del (memA p bs lt) L R) : Imp L (memA p bs (bkE lt l 0) :: R) := Imp.pull h (Imp.refl R)
attribute [local irreducible] bkE turnE
theorem back_spec (r p at_ n nx ls k : Nat) (vp vt : Value) (br : Bool) (a : Option Addr) (l : List Bf) (bs : List UInt8) (lt : List Bool) (hok : ∀ b ∈ l, b.ok) (hn : l.length ≤ 1000) :
    Sat Try.prog 69 [.pointer (some ⟨r, 0, none⟩), .slice a l.length k] [row 84 r [.pointer (some ⟨p, 0, none⟩), .int .u32 at_, .int .i64 n, vp, vt, .int .u16 nx, .int .u16 ls, .bool br], memA p bs lt, Pw.sl 90 (2 + 1) (.slice a l.length k) l.length (l.flatMap bufV)] (fun u L' => u = .tuple #[] ∧ L' = [row 84 r [.pointer (some ⟨p, 0, none⟩), .int .u32 at_, .int .i64 n, vp, vt, .int .u16 nx, .int .u16 ls, .bool br], memA p bs (bkE lt l l.length), Pw.sl 90 (2 + 1) (.slice a l.length k) l.length (l.flatMap bufV)]) := by
  all_goals
    refine Sat.enter Try.func69 rfl Try.ntmps69 rfl (fun c R => ?_)
    try simp only [List.cons_append, List.nil_append]
    repeat' (first
      | (refine T.atB 0 ?_; refine T.ent (Ent.imp (imp_bk l (lt := lt) (p := p) (bs := bs) (by repeat first | exact Del.head _ _ | apply Del.tail))) ?_; refine T.lpa 0 [(0, _), (6, _), (7, _)] (0 : Nat) (fun i => [(8, .int .i64 (i : Nat))]) (fun i => [memA p bs (bkE lt l i)]) (fun i => i ≤ l.length) (fun i => l.length - i) (Nat.zero_le _) ?_; rintro i g hi; have hb1 := fun h : i < l.length => (gt_all' hok h).at_; have hb2 := fun h : i < l.length => (gt_all' hok h).len; simp only [List.cons_append, List.nil_append, appR])
      | (refine TQ.atL ?_; have h9 := ‹(gt l i).inn = true›; rw [bk_yes h9]; refine TQ.rd (i + 1 : Nat) rfl ⟨rfl, rfl, rfl, rfl, trivial⟩ (by omega) (by omega) (Ent.imp (by repeat first | exact Imp.refl _ | (apply Imp.pull; focus ((repeat first | exact Del.head _ _ | apply Del.tail); done)) | apply Imp.drop)))
      | (refine TQ.atL ?_; have h9 := ‹(gt l i).inn = false›; rw [bk_no h9]; refine TQ.rd (i + 1 : Nat) rfl ⟨rfl, rfl, rfl, rfl, trivial⟩ (by omega) (by omega) (Ent.imp (by repeat first | exact Imp.refl _ | (apply Imp.pull; focus ((repeat first | exact Del.head _ _ | apply Del.tail); done)) | apply Imp.drop)))
      | (refine finAt ?_; obtain rfl : i = l.length := (by omega); exact Fini.of ⟨rfl, rfl⟩ (by repeat first | exact Imp.refl _ | (apply Imp.pull; focus ((repeat first | exact Del.head _ _ | apply Del.tail); done)) | apply Imp.drop))
      | exact hb1 (by assumption)
      | exact ⟨hb1 (by assumption), hb2 (by assumption)⟩
      | refine T.pk 4 [9] (.p 0 (.p 1 (.d 2 (.g 3 (.d 4 (.g 5 (.d 6 (.g 7 (.p 8 (.n 9 .fin)))))))))) ?_
      | refine And.intro (fun hc => ?_) (fun hc => ?_)
      | refine And.intro ?_ ?_
      | intro b
      | refine stk ?_
      | refine stp ?_
      | refine TQ.finC ?_
      | refine TQ.finC2 ?_
      | refine TQ.finC3 ?_
      | refine ⟨fun hc => ?_, fun hc => ?_⟩
      | refine Ei.f ?_
      | refine ⟨?_, ?_⟩
      | intro b
      | exact absurd rfl hc
      | exact absurd hc (by decide)
      | omega
      | (dsimp only; omega)
      | fail)
theorem back_pre (r p at_ n nx ls k m : Nat) (vp vt : Value) (br : Bool) (a : Option Addr) (l : List Bf) (bs : List UInt8) (lt : List Bool) (hok : ∀ b ∈ l, b.ok) (hn : l.length ≤ 1000) (hm : m ≤ l.length) :
    Sat Try.prog 69 [.pointer (some ⟨r, 0, none⟩), .slice a m k] [row 84 r [.pointer (some ⟨p, 0, none⟩), .int .u32 at_, .int .i64 n, vp, vt, .int .u16 nx, .int .u16 ls, .bool br], memA p bs lt, Pw.sl 90 (2 + 1) (.slice a l.length k) l.length (l.flatMap bufV)] (fun u L' => u = .tuple #[] ∧ L' = [row 84 r [.pointer (some ⟨p, 0, none⟩), .int .u32 at_, .int .i64 n, vp, vt, .int .u16 nx, .int .u16 ls, .bool br], memA p bs (bkE lt l m), Pw.sl 90 (2 + 1) (.slice a l.length k) l.length (l.flatMap bufV)]) := by
  all_goals
    refine Sat.enter Try.func69 rfl Try.ntmps69 rfl (fun c R => ?_)
    try simp only [List.cons_append, List.nil_append]
    repeat' (first
      | (refine T.atB 0 ?_; refine T.ent (Ent.imp (imp_bk l (lt := lt) (p := p) (bs := bs) (by repeat first | exact Del.head _ _ | apply Del.tail))) ?_; refine T.lpa 0 [(0, _), (6, _), (7, _)] (0 : Nat) (fun i => [(8, .int .i64 (i : Nat))]) (fun i => [memA p bs (bkE lt l i)]) (fun i => i ≤ m) (fun i => m - i) (Nat.zero_le _) ?_; rintro i g hi; have hb1 := fun h : i < m => (gt_all' hok (Nat.lt_of_lt_of_le h hm)).at_; have hb2 := fun h : i < m => (gt_all' hok (Nat.lt_of_lt_of_le h hm)).len; simp only [List.cons_append, List.nil_append, appR])
      | (refine TQ.atL ?_; have h9 := ‹(gt l i).inn = true›; rw [bk_yes h9]; refine TQ.rd (i + 1 : Nat) rfl ⟨rfl, rfl, rfl, rfl, trivial⟩ (by omega) (by omega) (Ent.imp (by repeat first | exact Imp.refl _ | (apply Imp.pull; focus ((repeat first | exact Del.head _ _ | apply Del.tail); done)) | apply Imp.drop)))
      | (refine TQ.atL ?_; have h9 := ‹(gt l i).inn = false›; rw [bk_no h9]; refine TQ.rd (i + 1 : Nat) rfl ⟨rfl, rfl, rfl, rfl, trivial⟩ (by omega) (by omega) (Ent.imp (by repeat first | exact Imp.refl _ | (apply Imp.pull; focus ((repeat first | exact Del.head _ _ | apply Del.tail); done)) | apply Imp.drop)))
      | (refine finAt ?_; obtain rfl : i = m := (by omega); exact Fini.of ⟨rfl, rfl⟩ (by repeat first | exact Imp.refl _ | (apply Imp.pull; focus ((repeat first | exact Del.head _ _ | apply Del.tail); done)) | apply Imp.drop))
      | exact hb1 (by assumption)
      | exact ⟨hb1 (by assumption), hb2 (by assumption)⟩
      | refine T.pk 4 [9] (.p 0 (.p 1 (.d 2 (.g 3 (.d 4 (.g 5 (.d 6 (.g 7 (.p 8 (.n 9 .fin)))))))))) ?_
      | refine And.intro (fun hc => ?_) (fun hc => ?_)
      | refine And.intro ?_ ?_
      | intro b
      | refine stk ?_
      | refine stp ?_
      | refine TQ.finC ?_
      | refine TQ.finC2 ?_
      | refine TQ.finC3 ?_
      | refine ⟨fun hc => ?_, fun hc => ?_⟩
      | refine Ei.f ?_
      | refine ⟨?_, ?_⟩
      | intro b
      | exact absurd rfl hc
      | exact absurd hc (by decide)
      | omega
      | (dsimp only; omega)
      | fail)

end Go.Proofs.Ytfgpnipnaaeafaa

