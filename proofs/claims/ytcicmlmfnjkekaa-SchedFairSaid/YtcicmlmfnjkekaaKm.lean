/- Lemmas for the proofs of this seat: no statement of the seat is claimed here. -/
import Derived.Test.YtcicmlmfnjkekaaKl
import Derived.Test.YtcicmlmfnjkekaaKc
set_option linter.all false

namespace Go.Proofs.Ytcicmlmfnjkekaa
open Go Pw
set_option maxRecDepth 20000
set_option maxHeartbeats 4000000
set_option synthInstance.maxHeartbeats 400000
set_option synthInstance.maxSize 4000
set_option maxHeartbeats 1000000
def W1 : Ab := ((newA 2).spawn 1).1
theorem w1a : ((newA 2).spawn 1).1 = W1 := rfl
theorem w1b : ((newA 2).spawn 1).2 = 0 := by rfl
def W2 : Ab := (W1.spawn 2).1
theorem w2a : (W1.spawn 2).1 = W2 := rfl
theorem w2b : (W1.spawn 2).2 = 0 := by rfl
def W3 : Ab := (W2.spawn 3).1
theorem w3a : (W2.spawn 3).1 = W3 := rfl
theorem w3b : (W2.spawn 3).2 = 0 := by rfl
def W4 : Ab := (W3.pick 1).1
theorem w4a : (W3.pick 1).1 = W4 := rfl
theorem w4b : (W3.pick 1).2.1 = 2 := by rfl
theorem w4c : (W3.pick 1).2.2 = 0 := by rfl
def W5 : Ab := (W4.yield).1
theorem w5a : (W4.yield).1 = W5 := rfl
theorem w5b : (W4.yield).2 = 0 := by rfl
def W6 : Ab := (W5.pick 1).1
theorem w6a : (W5.pick 1).1 = W6 := rfl
theorem w6b : (W5.pick 1).2.1 = 3 := by rfl
theorem w6c : (W5.pick 1).2.2 = 0 := by rfl
def W7 : Ab := (W6.yield).1
theorem w7a : (W6.yield).1 = W7 := rfl
theorem w7b : (W6.yield).2 = 0 := by rfl
def W8 : Ab := (W7.pick 1).1
theorem w8a : (W7.pick 1).1 = W8 := rfl
theorem w8b : (W7.pick 1).2.1 = 1 := by rfl
theorem w8c : (W7.pick 1).2.2 = 0 := by rfl
def W9 : Ab := (W8.wait 7 5).1
theorem w9a : (W8.wait 7 5).1 = W9 := rfl
theorem w9b : (W8.wait 7 5).2 = 0 := by rfl
def W10 : Ab := (W9.tick 5).1
theorem w10a : (W9.tick 5).1 = W10 := rfl
theorem w10b : (W9.tick 5).2 = 0 := by rfl
theorem w10r : W10.row = [2, 3, 1] := by rfl
theorem w10w : W10.why 1 = 50 := by rfl
theorem w10s : W10.state 1 = 1 := by rfl
theorem w9w : W9.waits.length ≤ 20 := by decide
attribute [local irreducible] W1 W2 W3 W4 W5 W6 W7 W8 W9 W10
theorem works_spec  :
    Sat Try.prog 7 [] [] (fun u L' => u = .bool true ∧ L' = []) := by
  all_goals
    refine Sat.enter Try.func7 rfl Try.ntmps7 rfl (fun c R => ?_)
    try simp only [List.cons_append, List.nil_append]
    repeat' (first
      | refine T.unb 0 4 ?_
      | (simp only [Nat.reduceAdd, w1a, w1b, w2a, w2b, w3a, w3b, w4a, w4b, w4c, w5a, w5b, w6a, w6b, w6c, w7a, w7b, w8a, w8b, w8c, w9a, w9b, w10a, w10b, w10r, w10w, w10s])
      | (refine Vc.mk ⟨by omega, by omega⟩ ?_)
      | (refine Vc.mk ⟨by omega, w9w⟩ ?_)
      | (exact Fini.of ⟨by rfl, rfl⟩ (by repeat first | exact Imp.refl _ | apply Imp.drop))
      | ((try dsimp only); rw [@decide_eq_true (_ = _) _ rfl])
      | refine And.intro (fun hc => ?_) (fun hc => ?_)
      | refine And.intro ?_ ?_
      | intro b
      | refine stp ?_
      | refine TQ.finC ?_
      | refine TQ.finC2 ?_
      | refine TQ.finC3 ?_
      | refine ⟨fun hc => ?_, fun hc => ?_⟩
      | refine Ei.f ?_
      | refine ⟨?_, ?_⟩
      | intro b
      | exact absurd rfl hc
      | exact absurd hc (by decide)
      | omega
      | (dsimp only; omega)
      | fail)

end Go.Proofs.Ytcicmlmfnjkekaa


namespace Go.Proofs.Ytcicmlmfnjkekaa
open Go Pw
set_option maxRecDepth 20000
set_option maxHeartbeats 4000000
set_option synthInstance.maxHeartbeats 400000
set_option synthInstance.maxSize 4000
set_option maxHeartbeats 1000000
instance {L : List Assn} : FnR Try.prog 7 [] L (fun q => q (.bool true) L) := ⟨fun q h => ⟨[], L, _, works_spec, .nil _, fun v L' hv => by rw [hv.1, hv.2]; exact h⟩⟩
theorem none_spec (x y : Int) :
    Sat Try.prog 6 [.int .u32 x, .int .u64 y] [] (fun u L' => u = .bool true ∧ L' = []) := by
  all_goals
    refine Sat.enter Try.func6 rfl Try.ntmps6 rfl (fun c R => ?_)
    try simp only [List.cons_append, List.nil_append]
    repeat' (first
      | (exact Fini.of ⟨by rfl, rfl⟩ (by repeat first | exact Imp.refl _ | apply Imp.drop))
      | ((try dsimp only); rw [@decide_eq_true (_ = _) _ rfl])
      | refine And.intro (fun hc => ?_) (fun hc => ?_)
      | refine And.intro ?_ ?_
      | intro b
      | refine stp ?_
      | refine TQ.finC ?_
      | refine TQ.finC2 ?_
      | refine TQ.finC3 ?_
      | refine ⟨fun hc => ?_, fun hc => ?_⟩
      | refine Ei.f ?_
      | refine ⟨?_, ?_⟩
      | intro b
      | exact absurd rfl hc
      | exact absurd hc (by decide)
      | omega
      | (dsimp only; omega)
      | fail)

end Go.Proofs.Ytcicmlmfnjkekaa


namespace Go.Proofs.Ytcicmlmfnjkekaa
open Go Pw
set_option maxRecDepth 20000
set_option maxHeartbeats 4000000
set_option synthInstance.maxHeartbeats 400000
set_option synthInstance.maxSize 4000
set_option maxHeartbeats 1000000

structure Stp where
  (d : Int) (id n : Nat) (m : Int)
instance : Inhabited Stp := ⟨⟨0, 0, 0, 0⟩⟩
abbrev stpV (t : Stp) : List Value := [.int .i64 t.d, .int .u32 t.id, .int .u64 t.n, .int .i64 t.m]
structure Stp.ok (t : Stp) : Prop where
  d : -9223372036854775808 ≤ t.d ∧ t.d < 9223372036854775808
  id : t.id < 4294967296
  n : t.n < 18446744073709551616
  m : -9223372036854775808 ≤ t.m ∧ t.m < 9223372036854775808
instance : FLen stpV 4 := ⟨fun _ => rfl⟩

end Go.Proofs.Ytcicmlmfnjkekaa

