/- Lemmas for the proofs of this seat: no statement of the seat is claimed here. -/
import Derived.Test.YtcidilijlgaohaaDoorA2
set_option linter.all false
namespace Go.Proofs.YtcidilijlgaohaaDoor
open Go Pw
set_option maxRecDepth 20000
set_option maxHeartbeats 4000000

instance : IsAdd Tryd.prog 43 := ⟨fun args w => by
  have he : Extern.find Tryd.f43 = some (Extern.MathBitsCarry.rows.head!).2 := by kernel_rfl
  rw [run_callFunc_extern (fn := Tryd.f43) Tryd.func43 (by kernel_rfl) (by kernel_rfl) (by kernel_rfl) he]
  simp⟩
abbrev numV (x : Nat) : List Value := [vU64 (x % 18446744073709551616), vU64 (x / 18446744073709551616 % 18446744073709551616), vU64 (x / 340282366920938463463374607431768211456 % 18446744073709551616)]
theorem dd (x : Nat) : x / 340282366920938463463374607431768211456 = x / 18446744073709551616 / 18446744073709551616 := by rw [Nat.div_div_eq_div_mul]
theorem plus_0 (x y : Nat) : (x % 18446744073709551616 + y % 18446744073709551616 + 0) % 18446744073709551616 = (x + y) % 18446744073709551616 := by omega
theorem plus_c (x y c : Nat) : (x + y + c) / 18446744073709551616 = x / 18446744073709551616 + y / 18446744073709551616 + (x % 18446744073709551616 + y % 18446744073709551616 + c) / 18446744073709551616 := by omega
theorem plus_m (x y c : Nat) : (x % 18446744073709551616 + y % 18446744073709551616 + c) % 18446744073709551616 = (x + y + c) % 18446744073709551616 := by omega
theorem plus_1 (x y : Nat) : (x / 18446744073709551616 % 18446744073709551616 + y / 18446744073709551616 % 18446744073709551616 + (x % 18446744073709551616 + y % 18446744073709551616 + 0) / 18446744073709551616) % 18446744073709551616 = (x + y) / 18446744073709551616 % 18446744073709551616 := by
  rw [plus_m, ← plus_c]; rfl
theorem plus_2 (x y : Nat) : (x / 340282366920938463463374607431768211456 % 18446744073709551616 + y / 340282366920938463463374607431768211456 % 18446744073709551616 + (x / 18446744073709551616 % 18446744073709551616 + y / 18446744073709551616 % 18446744073709551616 + (x % 18446744073709551616 + y % 18446744073709551616 + 0) / 18446744073709551616) / 18446744073709551616) % 18446744073709551616 = (x + y) / 340282366920938463463374607431768211456 % 18446744073709551616 := by
  rw [dd, dd, dd, plus_m, ← plus_c, ← plus_c]; rfl
theorem num_ext {a b c x : Nat} (h1 : a = x % 18446744073709551616) (h2 : b = x / 18446744073709551616 % 18446744073709551616) (h3 : c = x / 340282366920938463463374607431768211456 % 18446744073709551616) : [vU64 a, vU64 b, vU64 c] = numV x := by rw [h1, h2, h3]
theorem plus_spec (x y : Nat) :
    Sat Tryd.prog 28 [.agg (numV x).toArray, .agg (numV y).toArray] [] (fun u L' => u = .agg (numV (x + y)).toArray ∧ L' = []) := by
  all_goals
    refine Sat.enter Tryd.func28 rfl Tryd.ntmps28 rfl (fun c R => ?_)
    try simp only [List.cons_append, List.nil_append]
    repeat' (first
      | refine T.unb 0 3 ?_
      | exact Fini.mk ⟨congrArg (fun z : List Value => Value.agg z.toArray) (num_ext (plus_0 x y) (plus_1 x y) (plus_2 x y)), rfl⟩
      | refine T.pl 5 [8, 13] (.p 0 (.p 1 (.p 2 (.p 4 (.p 5 (.p 7 (.d 3 (.d 6 (.n 8 (.p 9 (.p 10 (.p 11 (.p 12 (.n 13 (.p 14 .fin))))))))))))))) ?_
      | refine stp ?_
      | refine TQ.finC ?_
      | refine ⟨fun hc => ?_, fun hc => ?_⟩
      | refine Ei.f ?_
      | refine ⟨?_, ?_⟩
      | intro b
      | omega
      | (dsimp only; omega)
      | omega
      | (dsimp only; omega)
      | fail)

/-- The number that three words are. -/
class NumL (cs : List Value) (x : outParam Nat) (C : outParam Prop) : Prop where h : C → cs = numV x
instance (priority := 1200) {x : Nat} : NumL [vU64 (x % 18446744073709551616), vU64 (x / 18446744073709551616 % 18446744073709551616), vU64 (x / 340282366920938463463374607431768211456 % 18446744073709551616)] x True := ⟨fun _ => rfl⟩
instance {u v w : Int} {a b c : Nat} [hu : Nn u a] [hv : Nn v b] [hw : Nn w c] : NumL [.int .u64 u, .int .u64 v, .int .u64 w] (a + 18446744073709551616 * b + 340282366920938463463374607431768211456 * c) (a < 18446744073709551616 ∧ b < 18446744073709551616 ∧ c < 18446744073709551616) :=
  ⟨fun hc => by rw [hu.h, hv.h, hw.h]; exact num_ext (by omega) (by omega) (by omega)⟩
instance {L : List Assn} {cs ds : List Value} {x y : Nat} {C D : Prop} [h1 : NumL cs x C] [h2 : NumL ds y D] : FnR Tryd.prog 28 [.agg cs.toArray, .agg ds.toArray] L (fun kk => Vc (C ∧ D) (kk (.agg (numV (x + y)).toArray) L)) :=
  ⟨fun kk h => ⟨[], L, _, by rw [h1.h h.l.1, h2.h h.l.2]; exact plus_spec x y, .nil _, fun v L' hq => by rw [hq.1, hq.2]; exact h.r⟩⟩
def foldE (x : Nat) : Nat := x % 1361129467683753853853498429727072845824 + 5 * (x / 1361129467683753853853498429727072845824)
theorem and3 (x : Nat) : x &&& 3 = x % 4 := by rw [show (3 : Nat) = 2 ^ 2 - 1 from rfl, Nat.and_two_pow_sub_one_eq_mod]
theorem fold_eq {x : Nat} (h : x < 1569275433846670190958947355801916604025588861116008628224) : x % 18446744073709551616 + 18446744073709551616 * (x / 18446744073709551616 % 18446744073709551616) + 340282366920938463463374607431768211456 * (x / 340282366920938463463374607431768211456 % 18446744073709551616 &&& 3) + (5 * (x / 340282366920938463463374607431768211456 % 18446744073709551616 / 2 ^ 2) + 18446744073709551616 * 0 + 340282366920938463463374607431768211456 * 0) = foldE x := by
  rw [and3, foldE, dd]; omega
theorem folded_spec (x : Nat) (h : x < 1569275433846670190958947355801916604025588861116008628224) :
    Sat Tryd.prog 30 [.agg (numV x).toArray] [] (fun u L' => u = .agg (numV (foldE x)).toArray ∧ L' = []) := by
  have h3 := and3 (x / 340282366920938463463374607431768211456 % 18446744073709551616)
  all_goals
    refine Sat.enter Tryd.func30 rfl Tryd.ntmps30 rfl (fun c R => ?_)
    try simp only [List.cons_append, List.nil_append]
    repeat' (first
      | exact Fini.mk ⟨by rw [fold_eq h], rfl⟩
      | refine stp ?_
      | refine TQ.finC ?_
      | refine ⟨fun hc => ?_, fun hc => ?_⟩
      | refine Ei.f ?_
      | refine ⟨?_, ?_⟩
      | intro b
      | omega
      | (dsimp only; omega)
      | omega
      | (dsimp only; omega)
      | fail)

instance {L : List Assn} {cs : List Value} {x : Nat} {C : Prop} [h1 : NumL cs x C] : FnR Tryd.prog 30 [.agg cs.toArray] L (fun kk => Vc (C ∧ x < 1569275433846670190958947355801916604025588861116008628224) (kk (.agg (numV (foldE x)).toArray) L)) :=
  ⟨fun kk h => ⟨[], L, _, by rw [h1.h h.l.1]; exact folded_spec x h.l.2, .nil _, fun v L' hq => by rw [hq.1, hq.2]; exact h.r⟩⟩

end Go.Proofs.YtcidilijlgaohaaDoor
