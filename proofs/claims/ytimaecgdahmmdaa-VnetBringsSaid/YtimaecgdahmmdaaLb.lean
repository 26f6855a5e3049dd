/- Lemmas for the proofs of this seat: no statement of the seat is claimed here. -/
import Derived.Test.YtimaecgdahmmdaaLa
set_option linter.all false

namespace Go.Proofs.Ytimaecgdahmmdaa
open Go Pw
set_option maxRecDepth 20000
set_option maxHeartbeats 4000000
set_option synthInstance.maxHeartbeats 400000
set_option synthInstance.maxSize 4000
set_option maxHeartbeats 8000000
instance {L : List Assn}  : FnR Try.prog 6 [] L (fun kk => kk (.bool true) L) := ⟨fun kk h => ⟨[], L, _, works_spec, .nil _, fun v L' hv => by rw [hv.1, hv.2]; exact h⟩⟩
theorem none_law (s : List UInt8) (hs : s.length < 140737488355328) :
    Sat Try.prog 4 [str s] [] (fun u L' => u = .bool true ∧ L' = []) := by
  all_goals
    refine Sat.enter Try.func4 rfl Try.ntmps4 rfl (fun c R => ?_)
    try simp only [List.cons_append, List.nil_append]
    repeat' (first
      | (refine finAt ?_; exact Fini.of ⟨rfl, rfl⟩ (by repeat first | exact Imp.refl _ | (apply Imp.pull; focus ((repeat first | exact Del.head _ _ | apply Del.tail); done)) | apply Imp.drop))
      | refine And.intro (fun hc => ?_) (fun hc => ?_)
      | refine And.intro ?_ ?_
      | intro b
      | refine stp ?_
      | refine TQ.finC ?_
      | refine TQ.finC2 ?_
      | refine TQ.finC3 ?_
      | refine ⟨fun hc => ?_, fun hc => ?_⟩
      | refine Ei.f ?_
      | refine ⟨?_, ?_⟩
      | intro b
      | exact absurd rfl hc
      | exact absurd hc (by decide)
      | omega
      | (dsimp only; omega)
      | fail)

end Go.Proofs.Ytimaecgdahmmdaa

