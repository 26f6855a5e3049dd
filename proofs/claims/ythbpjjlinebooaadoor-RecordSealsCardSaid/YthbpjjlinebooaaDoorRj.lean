/- Lemmas for the proofs of this seat: no statement of the seat is claimed here. -/
import Derived.Test.YthbpjjlinebooaaDoorRd
import Derived.Test.YthbpjjlinebooaaDoorRe
import Derived.Test.YthbpjjlinebooaaDoorRg
import Derived.Test.YthbpjjlinebooaaDoorRh
import Derived.Test.YthbpjjlinebooaaDoorRi
import Derived.Test.YthbpjjlinebooaaDoorRf
set_option linter.all false

namespace Go.Proofs.YthbpjjlinebooaaDoor
open Go Pw
set_option maxRecDepth 20000
set_option maxHeartbeats 4000000
set_option synthInstance.maxHeartbeats 400000
set_option synthInstance.maxSize 4000
set_option maxHeartbeats 1000000
theorem none_nil  :
    Sat Tryd.prog 30 [.pointer none] [] (fun u L' => u = .bool true ∧ L' = []) := by
  all_goals
    refine Sat.enter Tryd.func30 rfl Tryd.ntmps30 rfl (fun c R => ?_)
    try simp only [List.cons_append, List.nil_append]
    repeat' (first
      | exact Fini.mk ⟨rfl, rfl⟩
      | (exact absurd hc (by decide))
      | exact absurd rfl hc
      | refine And.intro (fun hc => ?_) (fun hc => ?_)
      | refine And.intro ?_ ?_
      | intro b
      | refine stp ?_
      | refine TQ.finC ?_
      | refine TQ.finC2 ?_
      | refine TQ.finC3 ?_
      | refine ⟨fun hc => ?_, fun hc => ?_⟩
      | refine Ei.f ?_
      | refine ⟨?_, ?_⟩
      | intro b
      | omega
      | (dsimp only; omega)
      | fail)
instance {L : List Assn}  : FnR Tryd.prog 30 [.pointer none] L (fun kk => Vc (True) (kk (.bool true) L)) := ⟨fun kk h => ⟨[], L, _, none_nil, .nil _, fun v L' hq => by rw [hq.1, hq.2]; exact h.r⟩⟩
theorem hnone_nil  :
    Sat Tryd.prog 36 [.pointer none] [] (fun u L' => u = .bool true ∧ L' = []) := by
  all_goals
    refine Sat.enter Tryd.func36 rfl Tryd.ntmps36 rfl (fun c R => ?_)
    try simp only [List.cons_append, List.nil_append]
    repeat' (first
      | exact Fini.mk ⟨rfl, rfl⟩
      | (exact absurd hc (by decide))
      | exact absurd rfl hc
      | refine And.intro (fun hc => ?_) (fun hc => ?_)
      | refine And.intro ?_ ?_
      | intro b
      | refine stp ?_
      | refine TQ.finC ?_
      | refine TQ.finC2 ?_
      | refine TQ.finC3 ?_
      | refine ⟨fun hc => ?_, fun hc => ?_⟩
      | refine Ei.f ?_
      | refine ⟨?_, ?_⟩
      | intro b
      | omega
      | (dsimp only; omega)
      | fail)
instance {L : List Assn}  : FnR Tryd.prog 36 [.pointer none] L (fun kk => Vc (True) (kk (.bool true) L)) := ⟨fun kk h => ⟨[], L, _, hnone_nil, .nil _, fun v L' hq => by rw [hq.1, hq.2]; exact h.r⟩⟩
theorem left_nil  :
    Sat Tryd.prog 14 [.pointer none] [] (fun u L' => u = .int .i64 (0 : Nat) ∧ L' = []) := by
  all_goals
    refine Sat.enter Tryd.func14 rfl Tryd.ntmps14 rfl (fun c R => ?_)
    try simp only [List.cons_append, List.nil_append]
    repeat' (first
      | exact Fini.mk ⟨rfl, rfl⟩
      | (exact absurd hc (by decide))
      | exact absurd rfl hc
      | refine And.intro (fun hc => ?_) (fun hc => ?_)
      | refine And.intro ?_ ?_
      | intro b
      | refine stp ?_
      | refine TQ.finC ?_
      | refine TQ.finC2 ?_
      | refine TQ.finC3 ?_
      | refine ⟨fun hc => ?_, fun hc => ?_⟩
      | refine Ei.f ?_
      | refine ⟨?_, ?_⟩
      | intro b
      | omega
      | (dsimp only; omega)
      | fail)
instance {L : List Assn}  : FnR Tryd.prog 14 [.pointer none] L (fun kk => Vc (True) (kk (.int .i64 (0 : Nat)) L)) := ⟨fun kk h => ⟨[], L, _, left_nil, .nil _, fun v L' hq => by rw [hq.1, hq.2]; exact h.r⟩⟩
theorem count_nil  :
    Sat Tryd.prog 24 [.pointer none] [] (fun u L' => u = .int .u64 (0 : Nat) ∧ L' = []) := by
  all_goals
    refine Sat.enter Tryd.func24 rfl Tryd.ntmps24 rfl (fun c R => ?_)
    try simp only [List.cons_append, List.nil_append]
    repeat' (first
      | exact Fini.mk ⟨rfl, rfl⟩
      | (exact absurd hc (by decide))
      | exact absurd rfl hc
      | refine And.intro (fun hc => ?_) (fun hc => ?_)
      | refine And.intro ?_ ?_
      | intro b
      | refine stp ?_
      | refine TQ.finC ?_
      | refine TQ.finC2 ?_
      | refine TQ.finC3 ?_
      | refine ⟨fun hc => ?_, fun hc => ?_⟩
      | refine Ei.f ?_
      | refine ⟨?_, ?_⟩
      | intro b
      | omega
      | (dsimp only; omega)
      | fail)
instance {L : List Assn}  : FnR Tryd.prog 24 [.pointer none] L (fun kk => Vc (True) (kk (.int .u64 (0 : Nat)) L)) := ⟨fun kk h => ⟨[], L, _, count_nil, .nil _, fun v L' hq => by rw [hq.1, hq.2]; exact h.r⟩⟩
theorem feed_nil (s : List UInt8) :
    Sat Tryd.prog 11 [.pointer none, str s] [] (fun u L' => u = asResult [.slice none 0 0, .int .i64 (1 : Nat)] ∧ L' = []) := by
  all_goals
    refine Sat.enter Tryd.func11 rfl Tryd.ntmps11 rfl (fun c R => ?_)
    try simp only [List.cons_append, List.nil_append]
    repeat' (first
      | exact Fini.of ⟨rfl, rfl⟩ (Imp.nil _)
      | exact Fini.mk ⟨rfl, rfl⟩
      | (exact absurd hc (by decide))
      | exact absurd rfl hc
      | refine T.pl 10 [1] (.p 0 (.p 2 (.p 3 (.p 4 (.b2 1 (.p 6 (.d 5 (.p 7 .fin))) 5 (.n 1 (.p 6 (.p 7 .fin)))))))) ?_
      | refine And.intro (fun hc => ?_) (fun hc => ?_)
      | refine And.intro ?_ ?_
      | intro b
      | refine stp ?_
      | refine TQ.finC ?_
      | refine TQ.finC2 ?_
      | refine TQ.finC3 ?_
      | refine ⟨fun hc => ?_, fun hc => ?_⟩
      | refine Ei.f ?_
      | refine ⟨?_, ?_⟩
      | intro b
      | omega
      | (dsimp only; omega)
      | fail)
instance {L : List Assn} {s : List UInt8} : FnR Tryd.prog 11 [.pointer none, str s] L (fun kk => Vc (True) (kk (asResult [.slice none 0 0, .int .i64 (1 : Nat)]) L)) := ⟨fun kk h => ⟨[], L, _, feed_nil s, .nil _, fun v L' hq => by rw [hq.1, hq.2]; exact h.r⟩⟩
theorem seal_nil (z : Int) (t : List UInt8) (pad : Int) :
    Sat Tryd.prog 20 [.pointer none, .agg #[.int .u8 z, str t], .int .i64 pad] [] (fun u L' => u = asResult [str [], .int .i64 (1 : Nat)] ∧ L' = []) := by
  all_goals
    refine Sat.enter Tryd.func20 rfl Tryd.ntmps20 rfl (fun c R => ?_)
    try simp only [List.cons_append, List.nil_append]
    repeat' (first
      | exact Fini.of ⟨rfl, rfl⟩ (Imp.nil _)
      | exact Fini.mk ⟨rfl, rfl⟩
      | (exact absurd hc (by decide))
      | exact absurd rfl hc
      | refine T.pl 7 [] (.p 0 (.p 1 (.p 4 (.p 5 (.d 2 (.d 3 (.d 6 (.d 7 (.p 8 (.p 9 .fin)))))))))) ?_
      | refine T.pl 10 [5, 11, 15, 17] (.p 0 (.p 1 (.p 4 (.p 6 (.p 14 (.p 2 (.p 7 (.p 9 (.b4 3 (.b3 5 (.b3 8 (.b2 10 (.b2 11 (.b2 12 (.p 13 (.n 15 (.p 16 (.n 17 (.p 18 (.p 19 (.p 20 (.p 21 (.p 22 .fin))))))))) 15 (.d 12 (.p 13 (.p 16 (.n 17 (.p 18 (.p 19 (.p 20 (.p 21 (.p 22 .fin)))))))))) 15 (.n 11 (.d 12 (.p 13 (.p 16 (.n 17 (.p 18 (.p 19 (.p 20 (.p 21 (.p 22 .fin))))))))))) 15 (.d 10 (.n 11 (.d 12 (.p 13 (.p 16 (.n 17 (.p 18 (.p 19 (.p 20 (.p 21 (.p 22 .fin)))))))))))) 10 (.b3 8 (.b2 11 (.b2 12 (.p 13 (.n 15 (.p 16 (.n 17 (.p 18 (.p 19 (.p 20 (.p 21 (.p 22 .fin))))))))) 15 (.d 12 (.p 13 (.p 16 (.n 17 (.p 18 (.p 19 (.p 20 (.p 21 (.p 22 .fin)))))))))) 15 (.n 11 (.d 12 (.p 13 (.p 16 (.n 17 (.p 18 (.p 19 (.p 20 (.p 21 (.p 22 .fin))))))))))) 11 (.b3 8 (.b2 12 (.p 13 (.n 15 (.p 16 (.n 17 (.p 18 (.p 19 (.p 20 (.p 21 (.p 22 .fin))))))))) 15 (.d 12 (.p 13 (.p 16 (.n 17 (.p 18 (.p 19 (.p 20 (.p 21 (.p 22 .fin)))))))))) 12 (.b2 8 (.p 13 (.n 15 (.p 16 (.n 17 (.p 18 (.p 19 (.p 20 (.p 21 (.p 22 .fin))))))))) 15 (.d 8 (.p 13 (.p 16 (.n 17 (.p 18 (.p 19 (.p 20 (.p 21 (.p 22 .fin)))))))))) 15 (.d 8 (.d 12 (.p 13 (.p 16 (.n 17 (.p 18 (.p 19 (.p 20 (.p 21 (.p 22 .fin))))))))))) 15 (.b2 8 (.n 11 (.d 12 (.p 13 (.p 16 (.n 17 (.p 18 (.p 19 (.p 20 (.p 21 (.p 22 .fin)))))))))) 11 (.d 8 (.d 12 (.p 13 (.p 16 (.n 17 (.p 18 (.p 19 (.p 20 (.p 21 (.p 22 .fin)))))))))))) 15 (.d 10 (.b2 8 (.n 11 (.d 12 (.p 13 (.p 16 (.n 17 (.p 18 (.p 19 (.p 20 (.p 21 (.p 22 .fin)))))))))) 11 (.d 8 (.d 12 (.p 13 (.p 16 (.n 17 (.p 18 (.p 19 (.p 20 (.p 21 (.p 22 .fin))))))))))))) 8 (.b2 5 (.b2 10 (.b2 11 (.b2 12 (.p 13 (.n 15 (.p 16 (.n 17 (.p 18 (.p 19 (.p 20 (.p 21 (.p 22 .fin))))))))) 15 (.d 12 (.p 13 (.p 16 (.n 17 (.p 18 (.p 19 (.p 20 (.p 21 (.p 22 .fin)))))))))) 15 (.n 11 (.d 12 (.p 13 (.p 16 (.n 17 (.p 18 (.p 19 (.p 20 (.p 21 (.p 22 .fin))))))))))) 15 (.d 10 (.n 11 (.d 12 (.p 13 (.p 16 (.n 17 (.p 18 (.p 19 (.p 20 (.p 21 (.p 22 .fin)))))))))))) 10 (.b2 5 (.b2 11 (.b2 12 (.p 13 (.n 15 (.p 16 (.n 17 (.p 18 (.p 19 (.p 20 (.p 21 (.p 22 .fin))))))))) 15 (.d 12 (.p 13 (.p 16 (.n 17 (.p 18 (.p 19 (.p 20 (.p 21 (.p 22 .fin)))))))))) 15 (.n 11 (.d 12 (.p 13 (.p 16 (.n 17 (.p 18 (.p 19 (.p 20 (.p 21 (.p 22 .fin))))))))))) 11 (.b2 5 (.b2 12 (.p 13 (.n 15 (.p 16 (.n 17 (.p 18 (.p 19 (.p 20 (.p 21 (.p 22 .fin))))))))) 15 (.d 12 (.p 13 (.p 16 (.n 17 (.p 18 (.p 19 (.p 20 (.p 21 (.p 22 .fin)))))))))) 12 (.p 13 (.n 5 (.n 15 (.p 16 (.n 17 (.p 18 (.p 19 (.p 20 (.p 21 (.p 22 .fin))))))))))))) 10 (.b3 5 (.b3 8 (.b2 11 (.b2 12 (.p 13 (.n 15 (.p 16 (.n 17 (.p 18 (.p 19 (.p 20 (.p 21 (.p 22 .fin))))))))) 15 (.d 12 (.p 13 (.p 16 (.n 17 (.p 18 (.p 19 (.p 20 (.p 21 (.p 22 .fin)))))))))) 15 (.n 11 (.d 12 (.p 13 (.p 16 (.n 17 (.p 18 (.p 19 (.p 20 (.p 21 (.p 22 .fin))))))))))) 11 (.b3 8 (.b2 12 (.p 13 (.n 15 (.p 16 (.n 17 (.p 18 (.p 19 (.p 20 (.p 21 (.p 22 .fin))))))))) 15 (.d 12 (.p 13 (.p 16 (.n 17 (.p 18 (.p 19 (.p 20 (.p 21 (.p 22 .fin)))))))))) 12 (.b2 8 (.p 13 (.n 15 (.p 16 (.n 17 (.p 18 (.p 19 (.p 20 (.p 21 (.p 22 .fin))))))))) 15 (.d 8 (.p 13 (.p 16 (.n 17 (.p 18 (.p 19 (.p 20 (.p 21 (.p 22 .fin)))))))))) 15 (.d 8 (.d 12 (.p 13 (.p 16 (.n 17 (.p 18 (.p 19 (.p 20 (.p 21 (.p 22 .fin))))))))))) 15 (.b2 8 (.n 11 (.d 12 (.p 13 (.p 16 (.n 17 (.p 18 (.p 19 (.p 20 (.p 21 (.p 22 .fin)))))))))) 11 (.d 8 (.d 12 (.p 13 (.p 16 (.n 17 (.p 18 (.p 19 (.p 20 (.p 21 (.p 22 .fin)))))))))))) 8 (.b2 5 (.b2 11 (.b2 12 (.p 13 (.n 15 (.p 16 (.n 17 (.p 18 (.p 19 (.p 20 (.p 21 (.p 22 .fin))))))))) 15 (.d 12 (.p 13 (.p 16 (.n 17 (.p 18 (.p 19 (.p 20 (.p 21 (.p 22 .fin)))))))))) 15 (.n 11 (.d 12 (.p 13 (.p 16 (.n 17 (.p 18 (.p 19 (.p 20 (.p 21 (.p 22 .fin))))))))))) 11 (.b2 5 (.b2 12 (.p 13 (.n 15 (.p 16 (.n 17 (.p 18 (.p 19 (.p 20 (.p 21 (.p 22 .fin))))))))) 15 (.d 12 (.p 13 (.p 16 (.n 17 (.p 18 (.p 19 (.p 20 (.p 21 (.p 22 .fin)))))))))) 12 (.p 13 (.n 5 (.n 15 (.p 16 (.n 17 (.p 18 (.p 19 (.p 20 (.p 21 (.p 22 .fin)))))))))))) 11 (.b3 5 (.b3 8 (.b2 12 (.p 13 (.n 15 (.p 16 (.n 17 (.p 18 (.p 19 (.p 20 (.p 21 (.p 22 .fin))))))))) 15 (.d 12 (.p 13 (.p 16 (.n 17 (.p 18 (.p 19 (.p 20 (.p 21 (.p 22 .fin)))))))))) 12 (.b2 8 (.p 13 (.n 15 (.p 16 (.n 17 (.p 18 (.p 19 (.p 20 (.p 21 (.p 22 .fin))))))))) 15 (.d 8 (.p 13 (.p 16 (.n 17 (.p 18 (.p 19 (.p 20 (.p 21 (.p 22 .fin)))))))))) 15 (.d 8 (.d 12 (.p 13 (.p 16 (.n 17 (.p 18 (.p 19 (.p 20 (.p 21 (.p 22 .fin))))))))))) 8 (.b2 5 (.b2 12 (.p 13 (.n 15 (.p 16 (.n 17 (.p 18 (.p 19 (.p 20 (.p 21 (.p 22 .fin))))))))) 15 (.d 12 (.p 13 (.p 16 (.n 17 (.p 18 (.p 19 (.p 20 (.p 21 (.p 22 .fin)))))))))) 12 (.p 13 (.n 5 (.n 15 (.p 16 (.n 17 (.p 18 (.p 19 (.p 20 (.p 21 (.p 22 .fin))))))))))) 12 (.b2 5 (.b2 8 (.p 13 (.n 15 (.p 16 (.n 17 (.p 18 (.p 19 (.p 20 (.p 21 (.p 22 .fin))))))))) 15 (.d 8 (.p 13 (.p 16 (.n 17 (.p 18 (.p 19 (.p 20 (.p 21 (.p 22 .fin)))))))))) 8 (.p 13 (.n 5 (.n 15 (.p 16 (.n 17 (.p 18 (.p 19 (.p 20 (.p 21 (.p 22 .fin)))))))))))))) 5 (.b4 3 (.b3 8 (.b2 10 (.b2 11 (.b2 12 (.p 13 (.n 15 (.p 16 (.n 17 (.p 18 (.p 19 (.p 20 (.p 21 (.p 22 .fin))))))))) 15 (.d 12 (.p 13 (.p 16 (.n 17 (.p 18 (.p 19 (.p 20 (.p 21 (.p 22 .fin)))))))))) 15 (.n 11 (.d 12 (.p 13 (.p 16 (.n 17 (.p 18 (.p 19 (.p 20 (.p 21 (.p 22 .fin))))))))))) 15 (.d 10 (.n 11 (.d 12 (.p 13 (.p 16 (.n 17 (.p 18 (.p 19 (.p 20 (.p 21 (.p 22 .fin)))))))))))) 10 (.b3 8 (.b2 11 (.b2 12 (.p 13 (.n 15 (.p 16 (.n 17 (.p 18 (.p 19 (.p 20 (.p 21 (.p 22 .fin))))))))) 15 (.d 12 (.p 13 (.p 16 (.n 17 (.p 18 (.p 19 (.p 20 (.p 21 (.p 22 .fin)))))))))) 15 (.n 11 (.d 12 (.p 13 (.p 16 (.n 17 (.p 18 (.p 19 (.p 20 (.p 21 (.p 22 .fin))))))))))) 11 (.b3 8 (.b2 12 (.p 13 (.n 15 (.p 16 (.n 17 (.p 18 (.p 19 (.p 20 (.p 21 (.p 22 .fin))))))))) 15 (.d 12 (.p 13 (.p 16 (.n 17 (.p 18 (.p 19 (.p 20 (.p 21 (.p 22 .fin)))))))))) 12 (.b2 8 (.p 13 (.n 15 (.p 16 (.n 17 (.p 18 (.p 19 (.p 20 (.p 21 (.p 22 .fin))))))))) 15 (.d 8 (.p 13 (.p 16 (.n 17 (.p 18 (.p 19 (.p 20 (.p 21 (.p 22 .fin)))))))))) 15 (.d 8 (.d 12 (.p 13 (.p 16 (.n 17 (.p 18 (.p 19 (.p 20 (.p 21 (.p 22 .fin))))))))))) 15 (.b2 8 (.n 11 (.d 12 (.p 13 (.p 16 (.n 17 (.p 18 (.p 19 (.p 20 (.p 21 (.p 22 .fin)))))))))) 11 (.d 8 (.d 12 (.p 13 (.p 16 (.n 17 (.p 18 (.p 19 (.p 20 (.p 21 (.p 22 .fin)))))))))))) 15 (.d 10 (.b2 8 (.n 11 (.d 12 (.p 13 (.p 16 (.n 17 (.p 18 (.p 19 (.p 20 (.p 21 (.p 22 .fin)))))))))) 11 (.d 8 (.d 12 (.p 13 (.p 16 (.n 17 (.p 18 (.p 19 (.p 20 (.p 21 (.p 22 .fin))))))))))))) 8 (.b3 3 (.b2 10 (.b2 11 (.b2 12 (.p 13 (.n 15 (.p 16 (.n 17 (.p 18 (.p 19 (.p 20 (.p 21 (.p 22 .fin))))))))) 15 (.d 12 (.p 13 (.p 16 (.n 17 (.p 18 (.p 19 (.p 20 (.p 21 (.p 22 .fin)))))))))) 15 (.n 11 (.d 12 (.p 13 (.p 16 (.n 17 (.p 18 (.p 19 (.p 20 (.p 21 (.p 22 .fin))))))))))) 15 (.d 10 (.n 11 (.d 12 (.p 13 (.p 16 (.n 17 (.p 18 (.p 19 (.p 20 (.p 21 (.p 22 .fin)))))))))))) 10 (.b3 3 (.b2 11 (.b2 12 (.p 13 (.n 15 (.p 16 (.n 17 (.p 18 (.p 19 (.p 20 (.p 21 (.p 22 .fin))))))))) 15 (.d 12 (.p 13 (.p 16 (.n 17 (.p 18 (.p 19 (.p 20 (.p 21 (.p 22 .fin)))))))))) 15 (.n 11 (.d 12 (.p 13 (.p 16 (.n 17 (.p 18 (.p 19 (.p 20 (.p 21 (.p 22 .fin))))))))))) 11 (.b3 3 (.b2 12 (.p 13 (.n 15 (.p 16 (.n 17 (.p 18 (.p 19 (.p 20 (.p 21 (.p 22 .fin))))))))) 15 (.d 12 (.p 13 (.p 16 (.n 17 (.p 18 (.p 19 (.p 20 (.p 21 (.p 22 .fin)))))))))) 12 (.p 13 (.b2 3 (.n 15 (.p 16 (.n 17 (.p 18 (.p 19 (.p 20 (.p 21 (.p 22 .fin)))))))) 15 (.p 16 (.d 3 (.n 17 (.p 18 (.p 19 (.p 20 (.p 21 (.p 22 .fin)))))))))) 15 (.d 3 (.d 12 (.p 13 (.p 16 (.n 17 (.p 18 (.p 19 (.p 20 (.p 21 (.p 22 .fin))))))))))) 15 (.b2 3 (.n 11 (.d 12 (.p 13 (.p 16 (.n 17 (.p 18 (.p 19 (.p 20 (.p 21 (.p 22 .fin)))))))))) 11 (.d 3 (.d 12 (.p 13 (.p 16 (.n 17 (.p 18 (.p 19 (.p 20 (.p 21 (.p 22 .fin)))))))))))) 15 (.d 10 (.b2 3 (.n 11 (.d 12 (.p 13 (.p 16 (.n 17 (.p 18 (.p 19 (.p 20 (.p 21 (.p 22 .fin)))))))))) 11 (.d 3 (.d 12 (.p 13 (.p 16 (.n 17 (.p 18 (.p 19 (.p 20 (.p 21 (.p 22 .fin))))))))))))) 10 (.b4 3 (.b3 8 (.b2 11 (.b2 12 (.p 13 (.n 15 (.p 16 (.n 17 (.p 18 (.p 19 (.p 20 (.p 21 (.p 22 .fin))))))))) 15 (.d 12 (.p 13 (.p 16 (.n 17 (.p 18 (.p 19 (.p 20 (.p 21 (.p 22 .fin)))))))))) 15 (.n 11 (.d 12 (.p 13 (.p 16 (.n 17 (.p 18 (.p 19 (.p 20 (.p 21 (.p 22 .fin))))))))))) 11 (.b3 8 (.b2 12 (.p 13 (.n 15 (.p 16 (.n 17 (.p 18 (.p 19 (.p 20 (.p 21 (.p 22 .fin))))))))) 15 (.d 12 (.p 13 (.p 16 (.n 17 (.p 18 (.p 19 (.p 20 (.p 21 (.p 22 .fin)))))))))) 12 (.b2 8 (.p 13 (.n 15 (.p 16 (.n 17 (.p 18 (.p 19 (.p 20 (.p 21 (.p 22 .fin))))))))) 15 (.d 8 (.p 13 (.p 16 (.n 17 (.p 18 (.p 19 (.p 20 (.p 21 (.p 22 .fin)))))))))) 15 (.d 8 (.d 12 (.p 13 (.p 16 (.n 17 (.p 18 (.p 19 (.p 20 (.p 21 (.p 22 .fin))))))))))) 15 (.b2 8 (.n 11 (.d 12 (.p 13 (.p 16 (.n 17 (.p 18 (.p 19 (.p 20 (.p 21 (.p 22 .fin)))))))))) 11 (.d 8 (.d 12 (.p 13 (.p 16 (.n 17 (.p 18 (.p 19 (.p 20 (.p 21 (.p 22 .fin)))))))))))) 8 (.b3 3 (.b2 11 (.b2 12 (.p 13 (.n 15 (.p 16 (.n 17 (.p 18 (.p 19 (.p 20 (.p 21 (.p 22 .fin))))))))) 15 (.d 12 (.p 13 (.p 16 (.n 17 (.p 18 (.p 19 (.p 20 (.p 21 (.p 22 .fin)))))))))) 15 (.n 11 (.d 12 (.p 13 (.p 16 (.n 17 (.p 18 (.p 19 (.p 20 (.p 21 (.p 22 .fin))))))))))) 11 (.b3 3 (.b2 12 (.p 13 (.n 15 (.p 16 (.n 17 (.p 18 (.p 19 (.p 20 (.p 21 (.p 22 .fin))))))))) 15 (.d 12 (.p 13 (.p 16 (.n 17 (.p 18 (.p 19 (.p 20 (.p 21 (.p 22 .fin)))))))))) 12 (.p 13 (.b2 3 (.n 15 (.p 16 (.n 17 (.p 18 (.p 19 (.p 20 (.p 21 (.p 22 .fin)))))))) 15 (.p 16 (.d 3 (.n 17 (.p 18 (.p 19 (.p 20 (.p 21 (.p 22 .fin)))))))))) 15 (.d 3 (.d 12 (.p 13 (.p 16 (.n 17 (.p 18 (.p 19 (.p 20 (.p 21 (.p 22 .fin))))))))))) 15 (.b2 3 (.n 11 (.d 12 (.p 13 (.p 16 (.n 17 (.p 18 (.p 19 (.p 20 (.p 21 (.p 22 .fin)))))))))) 11 (.d 3 (.d 12 (.p 13 (.p 16 (.n 17 (.p 18 (.p 19 (.p 20 (.p 21 (.p 22 .fin)))))))))))) 11 (.b4 3 (.b3 8 (.b2 12 (.p 13 (.n 15 (.p 16 (.n 17 (.p 18 (.p 19 (.p 20 (.p 21 (.p 22 .fin))))))))) 15 (.d 12 (.p 13 (.p 16 (.n 17 (.p 18 (.p 19 (.p 20 (.p 21 (.p 22 .fin)))))))))) 12 (.b2 8 (.p 13 (.n 15 (.p 16 (.n 17 (.p 18 (.p 19 (.p 20 (.p 21 (.p 22 .fin))))))))) 15 (.d 8 (.p 13 (.p 16 (.n 17 (.p 18 (.p 19 (.p 20 (.p 21 (.p 22 .fin)))))))))) 15 (.d 8 (.d 12 (.p 13 (.p 16 (.n 17 (.p 18 (.p 19 (.p 20 (.p 21 (.p 22 .fin))))))))))) 8 (.b3 3 (.b2 12 (.p 13 (.n 15 (.p 16 (.n 17 (.p 18 (.p 19 (.p 20 (.p 21 (.p 22 .fin))))))))) 15 (.d 12 (.p 13 (.p 16 (.n 17 (.p 18 (.p 19 (.p 20 (.p 21 (.p 22 .fin)))))))))) 12 (.p 13 (.b2 3 (.n 15 (.p 16 (.n 17 (.p 18 (.p 19 (.p 20 (.p 21 (.p 22 .fin)))))))) 15 (.p 16 (.d 3 (.n 17 (.p 18 (.p 19 (.p 20 (.p 21 (.p 22 .fin)))))))))) 15 (.d 3 (.d 12 (.p 13 (.p 16 (.n 17 (.p 18 (.p 19 (.p 20 (.p 21 (.p 22 .fin))))))))))) 12 (.b3 3 (.b2 8 (.p 13 (.n 15 (.p 16 (.n 17 (.p 18 (.p 19 (.p 20 (.p 21 (.p 22 .fin))))))))) 15 (.d 8 (.p 13 (.p 16 (.n 17 (.p 18 (.p 19 (.p 20 (.p 21 (.p 22 .fin)))))))))) 8 (.p 13 (.b2 3 (.n 15 (.p 16 (.n 17 (.p 18 (.p 19 (.p 20 (.p 21 (.p 22 .fin)))))))) 15 (.p 16 (.d 3 (.n 17 (.p 18 (.p 19 (.p 20 (.p 21 (.p 22 .fin)))))))))) 15 (.d 3 (.d 8 (.p 13 (.p 16 (.n 17 (.p 18 (.p 19 (.p 20 (.p 21 (.p 22 .fin))))))))))) 15 (.d 3 (.d 8 (.d 12 (.p 13 (.p 16 (.n 17 (.p 18 (.p 19 (.p 20 (.p 21 (.p 22 .fin)))))))))))) 15 (.b3 3 (.b2 8 (.n 11 (.d 12 (.p 13 (.p 16 (.n 17 (.p 18 (.p 19 (.p 20 (.p 21 (.p 22 .fin)))))))))) 11 (.d 8 (.d 12 (.p 13 (.p 16 (.n 17 (.p 18 (.p 19 (.p 20 (.p 21 (.p 22 .fin))))))))))) 8 (.b2 3 (.n 11 (.d 12 (.p 13 (.p 16 (.n 17 (.p 18 (.p 19 (.p 20 (.p 21 (.p 22 .fin)))))))))) 11 (.d 3 (.d 12 (.p 13 (.p 16 (.n 17 (.p 18 (.p 19 (.p 20 (.p 21 (.p 22 .fin))))))))))) 11 (.d 3 (.d 8 (.d 12 (.p 13 (.p 16 (.n 17 (.p 18 (.p 19 (.p 20 (.p 21 (.p 22 .fin))))))))))))) 15 (.d 10 (.b3 3 (.b2 8 (.n 11 (.d 12 (.p 13 (.p 16 (.n 17 (.p 18 (.p 19 (.p 20 (.p 21 (.p 22 .fin)))))))))) 11 (.d 8 (.d 12 (.p 13 (.p 16 (.n 17 (.p 18 (.p 19 (.p 20 (.p 21 (.p 22 .fin))))))))))) 8 (.b2 3 (.n 11 (.d 12 (.p 13 (.p 16 (.n 17 (.p 18 (.p 19 (.p 20 (.p 21 (.p 22 .fin)))))))))) 11 (.d 3 (.d 12 (.p 13 (.p 16 (.n 17 (.p 18 (.p 19 (.p 20 (.p 21 (.p 22 .fin))))))))))) 11 (.d 3 (.d 8 (.d 12 (.p 13 (.p 16 (.n 17 (.p 18 (.p 19 (.p 20 (.p 21 (.p 22 .fin)))))))))))))) 8 (.b3 3 (.b2 5 (.b2 10 (.b2 11 (.b2 12 (.p 13 (.n 15 (.p 16 (.n 17 (.p 18 (.p 19 (.p 20 (.p 21 (.p 22 .fin))))))))) 15 (.d 12 (.p 13 (.p 16 (.n 17 (.p 18 (.p 19 (.p 20 (.p 21 (.p 22 .fin)))))))))) 15 (.n 11 (.d 12 (.p 13 (.p 16 (.n 17 (.p 18 (.p 19 (.p 20 (.p 21 (.p 22 .fin))))))))))) 15 (.d 10 (.n 11 (.d 12 (.p 13 (.p 16 (.n 17 (.p 18 (.p 19 (.p 20 (.p 21 (.p 22 .fin)))))))))))) 10 (.b2 5 (.b2 11 (.b2 12 (.p 13 (.n 15 (.p 16 (.n 17 (.p 18 (.p 19 (.p 20 (.p 21 (.p 22 .fin))))))))) 15 (.d 12 (.p 13 (.p 16 (.n 17 (.p 18 (.p 19 (.p 20 (.p 21 (.p 22 .fin)))))))))) 15 (.n 11 (.d 12 (.p 13 (.p 16 (.n 17 (.p 18 (.p 19 (.p 20 (.p 21 (.p 22 .fin))))))))))) 11 (.b2 5 (.b2 12 (.p 13 (.n 15 (.p 16 (.n 17 (.p 18 (.p 19 (.p 20 (.p 21 (.p 22 .fin))))))))) 15 (.d 12 (.p 13 (.p 16 (.n 17 (.p 18 (.p 19 (.p 20 (.p 21 (.p 22 .fin)))))))))) 12 (.p 13 (.n 5 (.n 15 (.p 16 (.n 17 (.p 18 (.p 19 (.p 20 (.p 21 (.p 22 .fin))))))))))))) 5 (.b3 3 (.b2 10 (.b2 11 (.b2 12 (.p 13 (.n 15 (.p 16 (.n 17 (.p 18 (.p 19 (.p 20 (.p 21 (.p 22 .fin))))))))) 15 (.d 12 (.p 13 (.p 16 (.n 17 (.p 18 (.p 19 (.p 20 (.p 21 (.p 22 .fin)))))))))) 15 (.n 11 (.d 12 (.p 13 (.p 16 (.n 17 (.p 18 (.p 19 (.p 20 (.p 21 (.p 22 .fin))))))))))) 15 (.d 10 (.n 11 (.d 12 (.p 13 (.p 16 (.n 17 (.p 18 (.p 19 (.p 20 (.p 21 (.p 22 .fin)))))))))))) 10 (.b3 3 (.b2 11 (.b2 12 (.p 13 (.n 15 (.p 16 (.n 17 (.p 18 (.p 19 (.p 20 (.p 21 (.p 22 .fin))))))))) 15 (.d 12 (.p 13 (.p 16 (.n 17 (.p 18 (.p 19 (.p 20 (.p 21 (.p 22 .fin)))))))))) 15 (.n 11 (.d 12 (.p 13 (.p 16 (.n 17 (.p 18 (.p 19 (.p 20 (.p 21 (.p 22 .fin))))))))))) 11 (.b3 3 (.b2 12 (.p 13 (.n 15 (.p 16 (.n 17 (.p 18 (.p 19 (.p 20 (.p 21 (.p 22 .fin))))))))) 15 (.d 12 (.p 13 (.p 16 (.n 17 (.p 18 (.p 19 (.p 20 (.p 21 (.p 22 .fin)))))))))) 12 (.p 13 (.b2 3 (.n 15 (.p 16 (.n 17 (.p 18 (.p 19 (.p 20 (.p 21 (.p 22 .fin)))))))) 15 (.p 16 (.d 3 (.n 17 (.p 18 (.p 19 (.p 20 (.p 21 (.p 22 .fin)))))))))) 15 (.d 3 (.d 12 (.p 13 (.p 16 (.n 17 (.p 18 (.p 19 (.p 20 (.p 21 (.p 22 .fin))))))))))) 15 (.b2 3 (.n 11 (.d 12 (.p 13 (.p 16 (.n 17 (.p 18 (.p 19 (.p 20 (.p 21 (.p 22 .fin)))))))))) 11 (.d 3 (.d 12 (.p 13 (.p 16 (.n 17 (.p 18 (.p 19 (.p 20 (.p 21 (.p 22 .fin)))))))))))) 15 (.d 10 (.b2 3 (.n 11 (.d 12 (.p 13 (.p 16 (.n 17 (.p 18 (.p 19 (.p 20 (.p 21 (.p 22 .fin)))))))))) 11 (.d 3 (.d 12 (.p 13 (.p 16 (.n 17 (.p 18 (.p 19 (.p 20 (.p 21 (.p 22 .fin))))))))))))) 10 (.b3 3 (.b2 5 (.b2 11 (.b2 12 (.p 13 (.n 15 (.p 16 (.n 17 (.p 18 (.p 19 (.p 20 (.p 21 (.p 22 .fin))))))))) 15 (.d 12 (.p 13 (.p 16 (.n 17 (.p 18 (.p 19 (.p 20 (.p 21 (.p 22 .fin)))))))))) 15 (.n 11 (.d 12 (.p 13 (.p 16 (.n 17 (.p 18 (.p 19 (.p 20 (.p 21 (.p 22 .fin))))))))))) 11 (.b2 5 (.b2 12 (.p 13 (.n 15 (.p 16 (.n 17 (.p 18 (.p 19 (.p 20 (.p 21 (.p 22 .fin))))))))) 15 (.d 12 (.p 13 (.p 16 (.n 17 (.p 18 (.p 19 (.p 20 (.p 21 (.p 22 .fin)))))))))) 12 (.p 13 (.n 5 (.n 15 (.p 16 (.n 17 (.p 18 (.p 19 (.p 20 (.p 21 (.p 22 .fin)))))))))))) 5 (.b3 3 (.b2 11 (.b2 12 (.p 13 (.n 15 (.p 16 (.n 17 (.p 18 (.p 19 (.p 20 (.p 21 (.p 22 .fin))))))))) 15 (.d 12 (.p 13 (.p 16 (.n 17 (.p 18 (.p 19 (.p 20 (.p 21 (.p 22 .fin)))))))))) 15 (.n 11 (.d 12 (.p 13 (.p 16 (.n 17 (.p 18 (.p 19 (.p 20 (.p 21 (.p 22 .fin))))))))))) 11 (.b3 3 (.b2 12 (.p 13 (.n 15 (.p 16 (.n 17 (.p 18 (.p 19 (.p 20 (.p 21 (.p 22 .fin))))))))) 15 (.d 12 (.p 13 (.p 16 (.n 17 (.p 18 (.p 19 (.p 20 (.p 21 (.p 22 .fin)))))))))) 12 (.p 13 (.b2 3 (.n 15 (.p 16 (.n 17 (.p 18 (.p 19 (.p 20 (.p 21 (.p 22 .fin)))))))) 15 (.p 16 (.d 3 (.n 17 (.p 18 (.p 19 (.p 20 (.p 21 (.p 22 .fin)))))))))) 15 (.d 3 (.d 12 (.p 13 (.p 16 (.n 17 (.p 18 (.p 19 (.p 20 (.p 21 (.p 22 .fin))))))))))) 15 (.b2 3 (.n 11 (.d 12 (.p 13 (.p 16 (.n 17 (.p 18 (.p 19 (.p 20 (.p 21 (.p 22 .fin)))))))))) 11 (.d 3 (.d 12 (.p 13 (.p 16 (.n 17 (.p 18 (.p 19 (.p 20 (.p 21 (.p 22 .fin)))))))))))) 11 (.b3 3 (.b2 5 (.b2 12 (.p 13 (.n 15 (.p 16 (.n 17 (.p 18 (.p 19 (.p 20 (.p 21 (.p 22 .fin))))))))) 15 (.d 12 (.p 13 (.p 16 (.n 17 (.p 18 (.p 19 (.p 20 (.p 21 (.p 22 .fin)))))))))) 12 (.p 13 (.n 5 (.n 15 (.p 16 (.n 17 (.p 18 (.p 19 (.p 20 (.p 21 (.p 22 .fin))))))))))) 5 (.b3 3 (.b2 12 (.p 13 (.n 15 (.p 16 (.n 17 (.p 18 (.p 19 (.p 20 (.p 21 (.p 22 .fin))))))))) 15 (.d 12 (.p 13 (.p 16 (.n 17 (.p 18 (.p 19 (.p 20 (.p 21 (.p 22 .fin)))))))))) 12 (.p 13 (.b2 3 (.n 15 (.p 16 (.n 17 (.p 18 (.p 19 (.p 20 (.p 21 (.p 22 .fin)))))))) 15 (.p 16 (.d 3 (.n 17 (.p 18 (.p 19 (.p 20 (.p 21 (.p 22 .fin)))))))))) 15 (.d 3 (.d 12 (.p 13 (.p 16 (.n 17 (.p 18 (.p 19 (.p 20 (.p 21 (.p 22 .fin))))))))))) 12 (.p 13 (.b2 3 (.n 5 (.n 15 (.p 16 (.n 17 (.p 18 (.p 19 (.p 20 (.p 21 (.p 22 .fin))))))))) 5 (.b2 3 (.n 15 (.p 16 (.n 17 (.p 18 (.p 19 (.p 20 (.p 21 (.p 22 .fin)))))))) 15 (.p 16 (.d 3 (.n 17 (.p 18 (.p 19 (.p 20 (.p 21 (.p 22 .fin)))))))))))))) 10 (.b4 3 (.b3 5 (.b3 8 (.b2 11 (.b2 12 (.p 13 (.n 15 (.p 16 (.n 17 (.p 18 (.p 19 (.p 20 (.p 21 (.p 22 .fin))))))))) 15 (.d 12 (.p 13 (.p 16 (.n 17 (.p 18 (.p 19 (.p 20 (.p 21 (.p 22 .fin)))))))))) 15 (.n 11 (.d 12 (.p 13 (.p 16 (.n 17 (.p 18 (.p 19 (.p 20 (.p 21 (.p 22 .fin))))))))))) 11 (.b3 8 (.b2 12 (.p 13 (.n 15 (.p 16 (.n 17 (.p 18 (.p 19 (.p 20 (.p 21 (.p 22 .fin))))))))) 15 (.d 12 (.p 13 (.p 16 (.n 17 (.p 18 (.p 19 (.p 20 (.p 21 (.p 22 .fin)))))))))) 12 (.b2 8 (.p 13 (.n 15 (.p 16 (.n 17 (.p 18 (.p 19 (.p 20 (.p 21 (.p 22 .fin))))))))) 15 (.d 8 (.p 13 (.p 16 (.n 17 (.p 18 (.p 19 (.p 20 (.p 21 (.p 22 .fin)))))))))) 15 (.d 8 (.d 12 (.p 13 (.p 16 (.n 17 (.p 18 (.p 19 (.p 20 (.p 21 (.p 22 .fin))))))))))) 15 (.b2 8 (.n 11 (.d 12 (.p 13 (.p 16 (.n 17 (.p 18 (.p 19 (.p 20 (.p 21 (.p 22 .fin)))))))))) 11 (.d 8 (.d 12 (.p 13 (.p 16 (.n 17 (.p 18 (.p 19 (.p 20 (.p 21 (.p 22 .fin)))))))))))) 8 (.b2 5 (.b2 11 (.b2 12 (.p 13 (.n 15 (.p 16 (.n 17 (.p 18 (.p 19 (.p 20 (.p 21 (.p 22 .fin))))))))) 15 (.d 12 (.p 13 (.p 16 (.n 17 (.p 18 (.p 19 (.p 20 (.p 21 (.p 22 .fin)))))))))) 15 (.n 11 (.d 12 (.p 13 (.p 16 (.n 17 (.p 18 (.p 19 (.p 20 (.p 21 (.p 22 .fin))))))))))) 11 (.b2 5 (.b2 12 (.p 13 (.n 15 (.p 16 (.n 17 (.p 18 (.p 19 (.p 20 (.p 21 (.p 22 .fin))))))))) 15 (.d 12 (.p 13 (.p 16 (.n 17 (.p 18 (.p 19 (.p 20 (.p 21 (.p 22 .fin)))))))))) 12 (.p 13 (.n 5 (.n 15 (.p 16 (.n 17 (.p 18 (.p 19 (.p 20 (.p 21 (.p 22 .fin)))))))))))) 11 (.b3 5 (.b3 8 (.b2 12 (.p 13 (.n 15 (.p 16 (.n 17 (.p 18 (.p 19 (.p 20 (.p 21 (.p 22 .fin))))))))) 15 (.d 12 (.p 13 (.p 16 (.n 17 (.p 18 (.p 19 (.p 20 (.p 21 (.p 22 .fin)))))))))) 12 (.b2 8 (.p 13 (.n 15 (.p 16 (.n 17 (.p 18 (.p 19 (.p 20 (.p 21 (.p 22 .fin))))))))) 15 (.d 8 (.p 13 (.p 16 (.n 17 (.p 18 (.p 19 (.p 20 (.p 21 (.p 22 .fin)))))))))) 15 (.d 8 (.d 12 (.p 13 (.p 16 (.n 17 (.p 18 (.p 19 (.p 20 (.p 21 (.p 22 .fin))))))))))) 8 (.b2 5 (.b2 12 (.p 13 (.n 15 (.p 16 (.n 17 (.p 18 (.p 19 (.p 20 (.p 21 (.p 22 .fin))))))))) 15 (.d 12 (.p 13 (.p 16 (.n 17 (.p 18 (.p 19 (.p 20 (.p 21 (.p 22 .fin)))))))))) 12 (.p 13 (.n 5 (.n 15 (.p 16 (.n 17 (.p 18 (.p 19 (.p 20 (.p 21 (.p 22 .fin))))))))))) 12 (.b2 5 (.b2 8 (.p 13 (.n 15 (.p 16 (.n 17 (.p 18 (.p 19 (.p 20 (.p 21 (.p 22 .fin))))))))) 15 (.d 8 (.p 13 (.p 16 (.n 17 (.p 18 (.p 19 (.p 20 (.p 21 (.p 22 .fin)))))))))) 8 (.p 13 (.n 5 (.n 15 (.p 16 (.n 17 (.p 18 (.p 19 (.p 20 (.p 21 (.p 22 .fin))))))))))))) 5 (.b4 3 (.b3 8 (.b2 11 (.b2 12 (.p 13 (.n 15 (.p 16 (.n 17 (.p 18 (.p 19 (.p 20 (.p 21 (.p 22 .fin))))))))) 15 (.d 12 (.p 13 (.p 16 (.n 17 (.p 18 (.p 19 (.p 20 (.p 21 (.p 22 .fin)))))))))) 15 (.n 11 (.d 12 (.p 13 (.p 16 (.n 17 (.p 18 (.p 19 (.p 20 (.p 21 (.p 22 .fin))))))))))) 11 (.b3 8 (.b2 12 (.p 13 (.n 15 (.p 16 (.n 17 (.p 18 (.p 19 (.p 20 (.p 21 (.p 22 .fin))))))))) 15 (.d 12 (.p 13 (.p 16 (.n 17 (.p 18 (.p 19 (.p 20 (.p 21 (.p 22 .fin)))))))))) 12 (.b2 8 (.p 13 (.n 15 (.p 16 (.n 17 (.p 18 (.p 19 (.p 20 (.p 21 (.p 22 .fin))))))))) 15 (.d 8 (.p 13 (.p 16 (.n 17 (.p 18 (.p 19 (.p 20 (.p 21 (.p 22 .fin)))))))))) 15 (.d 8 (.d 12 (.p 13 (.p 16 (.n 17 (.p 18 (.p 19 (.p 20 (.p 21 (.p 22 .fin))))))))))) 15 (.b2 8 (.n 11 (.d 12 (.p 13 (.p 16 (.n 17 (.p 18 (.p 19 (.p 20 (.p 21 (.p 22 .fin)))))))))) 11 (.d 8 (.d 12 (.p 13 (.p 16 (.n 17 (.p 18 (.p 19 (.p 20 (.p 21 (.p 22 .fin)))))))))))) 8 (.b3 3 (.b2 11 (.b2 12 (.p 13 (.n 15 (.p 16 (.n 17 (.p 18 (.p 19 (.p 20 (.p 21 (.p 22 .fin))))))))) 15 (.d 12 (.p 13 (.p 16 (.n 17 (.p 18 (.p 19 (.p 20 (.p 21 (.p 22 .fin)))))))))) 15 (.n 11 (.d 12 (.p 13 (.p 16 (.n 17 (.p 18 (.p 19 (.p 20 (.p 21 (.p 22 .fin))))))))))) 11 (.b3 3 (.b2 12 (.p 13 (.n 15 (.p 16 (.n 17 (.p 18 (.p 19 (.p 20 (.p 21 (.p 22 .fin))))))))) 15 (.d 12 (.p 13 (.p 16 (.n 17 (.p 18 (.p 19 (.p 20 (.p 21 (.p 22 .fin)))))))))) 12 (.p 13 (.b2 3 (.n 15 (.p 16 (.n 17 (.p 18 (.p 19 (.p 20 (.p 21 (.p 22 .fin)))))))) 15 (.p 16 (.d 3 (.n 17 (.p 18 (.p 19 (.p 20 (.p 21 (.p 22 .fin)))))))))) 15 (.d 3 (.d 12 (.p 13 (.p 16 (.n 17 (.p 18 (.p 19 (.p 20 (.p 21 (.p 22 .fin))))))))))) 15 (.b2 3 (.n 11 (.d 12 (.p 13 (.p 16 (.n 17 (.p 18 (.p 19 (.p 20 (.p 21 (.p 22 .fin)))))))))) 11 (.d 3 (.d 12 (.p 13 (.p 16 (.n 17 (.p 18 (.p 19 (.p 20 (.p 21 (.p 22 .fin)))))))))))) 11 (.b4 3 (.b3 8 (.b2 12 (.p 13 (.n 15 (.p 16 (.n 17 (.p 18 (.p 19 (.p 20 (.p 21 (.p 22 .fin))))))))) 15 (.d 12 (.p 13 (.p 16 (.n 17 (.p 18 (.p 19 (.p 20 (.p 21 (.p 22 .fin)))))))))) 12 (.b2 8 (.p 13 (.n 15 (.p 16 (.n 17 (.p 18 (.p 19 (.p 20 (.p 21 (.p 22 .fin))))))))) 15 (.d 8 (.p 13 (.p 16 (.n 17 (.p 18 (.p 19 (.p 20 (.p 21 (.p 22 .fin)))))))))) 15 (.d 8 (.d 12 (.p 13 (.p 16 (.n 17 (.p 18 (.p 19 (.p 20 (.p 21 (.p 22 .fin))))))))))) 8 (.b3 3 (.b2 12 (.p 13 (.n 15 (.p 16 (.n 17 (.p 18 (.p 19 (.p 20 (.p 21 (.p 22 .fin))))))))) 15 (.d 12 (.p 13 (.p 16 (.n 17 (.p 18 (.p 19 (.p 20 (.p 21 (.p 22 .fin)))))))))) 12 (.p 13 (.b2 3 (.n 15 (.p 16 (.n 17 (.p 18 (.p 19 (.p 20 (.p 21 (.p 22 .fin)))))))) 15 (.p 16 (.d 3 (.n 17 (.p 18 (.p 19 (.p 20 (.p 21 (.p 22 .fin)))))))))) 15 (.d 3 (.d 12 (.p 13 (.p 16 (.n 17 (.p 18 (.p 19 (.p 20 (.p 21 (.p 22 .fin))))))))))) 12 (.b3 3 (.b2 8 (.p 13 (.n 15 (.p 16 (.n 17 (.p 18 (.p 19 (.p 20 (.p 21 (.p 22 .fin))))))))) 15 (.d 8 (.p 13 (.p 16 (.n 17 (.p 18 (.p 19 (.p 20 (.p 21 (.p 22 .fin)))))))))) 8 (.p 13 (.b2 3 (.n 15 (.p 16 (.n 17 (.p 18 (.p 19 (.p 20 (.p 21 (.p 22 .fin)))))))) 15 (.p 16 (.d 3 (.n 17 (.p 18 (.p 19 (.p 20 (.p 21 (.p 22 .fin)))))))))) 15 (.d 3 (.d 8 (.p 13 (.p 16 (.n 17 (.p 18 (.p 19 (.p 20 (.p 21 (.p 22 .fin))))))))))) 15 (.d 3 (.d 8 (.d 12 (.p 13 (.p 16 (.n 17 (.p 18 (.p 19 (.p 20 (.p 21 (.p 22 .fin)))))))))))) 15 (.b3 3 (.b2 8 (.n 11 (.d 12 (.p 13 (.p 16 (.n 17 (.p 18 (.p 19 (.p 20 (.p 21 (.p 22 .fin)))))))))) 11 (.d 8 (.d 12 (.p 13 (.p 16 (.n 17 (.p 18 (.p 19 (.p 20 (.p 21 (.p 22 .fin))))))))))) 8 (.b2 3 (.n 11 (.d 12 (.p 13 (.p 16 (.n 17 (.p 18 (.p 19 (.p 20 (.p 21 (.p 22 .fin)))))))))) 11 (.d 3 (.d 12 (.p 13 (.p 16 (.n 17 (.p 18 (.p 19 (.p 20 (.p 21 (.p 22 .fin))))))))))) 11 (.d 3 (.d 8 (.d 12 (.p 13 (.p 16 (.n 17 (.p 18 (.p 19 (.p 20 (.p 21 (.p 22 .fin))))))))))))) 8 (.b3 3 (.b2 5 (.b2 11 (.b2 12 (.p 13 (.n 15 (.p 16 (.n 17 (.p 18 (.p 19 (.p 20 (.p 21 (.p 22 .fin))))))))) 15 (.d 12 (.p 13 (.p 16 (.n 17 (.p 18 (.p 19 (.p 20 (.p 21 (.p 22 .fin)))))))))) 15 (.n 11 (.d 12 (.p 13 (.p 16 (.n 17 (.p 18 (.p 19 (.p 20 (.p 21 (.p 22 .fin))))))))))) 11 (.b2 5 (.b2 12 (.p 13 (.n 15 (.p 16 (.n 17 (.p 18 (.p 19 (.p 20 (.p 21 (.p 22 .fin))))))))) 15 (.d 12 (.p 13 (.p 16 (.n 17 (.p 18 (.p 19 (.p 20 (.p 21 (.p 22 .fin)))))))))) 12 (.p 13 (.n 5 (.n 15 (.p 16 (.n 17 (.p 18 (.p 19 (.p 20 (.p 21 (.p 22 .fin)))))))))))) 5 (.b3 3 (.b2 11 (.b2 12 (.p 13 (.n 15 (.p 16 (.n 17 (.p 18 (.p 19 (.p 20 (.p 21 (.p 22 .fin))))))))) 15 (.d 12 (.p 13 (.p 16 (.n 17 (.p 18 (.p 19 (.p 20 (.p 21 (.p 22 .fin)))))))))) 15 (.n 11 (.d 12 (.p 13 (.p 16 (.n 17 (.p 18 (.p 19 (.p 20 (.p 21 (.p 22 .fin))))))))))) 11 (.b3 3 (.b2 12 (.p 13 (.n 15 (.p 16 (.n 17 (.p 18 (.p 19 (.p 20 (.p 21 (.p 22 .fin))))))))) 15 (.d 12 (.p 13 (.p 16 (.n 17 (.p 18 (.p 19 (.p 20 (.p 21 (.p 22 .fin)))))))))) 12 (.p 13 (.b2 3 (.n 15 (.p 16 (.n 17 (.p 18 (.p 19 (.p 20 (.p 21 (.p 22 .fin)))))))) 15 (.p 16 (.d 3 (.n 17 (.p 18 (.p 19 (.p 20 (.p 21 (.p 22 .fin)))))))))) 15 (.d 3 (.d 12 (.p 13 (.p 16 (.n 17 (.p 18 (.p 19 (.p 20 (.p 21 (.p 22 .fin))))))))))) 15 (.b2 3 (.n 11 (.d 12 (.p 13 (.p 16 (.n 17 (.p 18 (.p 19 (.p 20 (.p 21 (.p 22 .fin)))))))))) 11 (.d 3 (.d 12 (.p 13 (.p 16 (.n 17 (.p 18 (.p 19 (.p 20 (.p 21 (.p 22 .fin)))))))))))) 11 (.b3 3 (.b2 5 (.b2 12 (.p 13 (.n 15 (.p 16 (.n 17 (.p 18 (.p 19 (.p 20 (.p 21 (.p 22 .fin))))))))) 15 (.d 12 (.p 13 (.p 16 (.n 17 (.p 18 (.p 19 (.p 20 (.p 21 (.p 22 .fin)))))))))) 12 (.p 13 (.n 5 (.n 15 (.p 16 (.n 17 (.p 18 (.p 19 (.p 20 (.p 21 (.p 22 .fin))))))))))) 5 (.b3 3 (.b2 12 (.p 13 (.n 15 (.p 16 (.n 17 (.p 18 (.p 19 (.p 20 (.p 21 (.p 22 .fin))))))))) 15 (.d 12 (.p 13 (.p 16 (.n 17 (.p 18 (.p 19 (.p 20 (.p 21 (.p 22 .fin)))))))))) 12 (.p 13 (.b2 3 (.n 15 (.p 16 (.n 17 (.p 18 (.p 19 (.p 20 (.p 21 (.p 22 .fin)))))))) 15 (.p 16 (.d 3 (.n 17 (.p 18 (.p 19 (.p 20 (.p 21 (.p 22 .fin)))))))))) 15 (.d 3 (.d 12 (.p 13 (.p 16 (.n 17 (.p 18 (.p 19 (.p 20 (.p 21 (.p 22 .fin))))))))))) 12 (.p 13 (.b2 3 (.n 5 (.n 15 (.p 16 (.n 17 (.p 18 (.p 19 (.p 20 (.p 21 (.p 22 .fin))))))))) 5 (.b2 3 (.n 15 (.p 16 (.n 17 (.p 18 (.p 19 (.p 20 (.p 21 (.p 22 .fin)))))))) 15 (.p 16 (.d 3 (.n 17 (.p 18 (.p 19 (.p 20 (.p 21 (.p 22 .fin))))))))))))) 11 (.b4 3 (.b3 5 (.b3 8 (.b2 12 (.p 13 (.n 15 (.p 16 (.n 17 (.p 18 (.p 19 (.p 20 (.p 21 (.p 22 .fin))))))))) 15 (.d 12 (.p 13 (.p 16 (.n 17 (.p 18 (.p 19 (.p 20 (.p 21 (.p 22 .fin)))))))))) 12 (.b2 8 (.p 13 (.n 15 (.p 16 (.n 17 (.p 18 (.p 19 (.p 20 (.p 21 (.p 22 .fin))))))))) 15 (.d 8 (.p 13 (.p 16 (.n 17 (.p 18 (.p 19 (.p 20 (.p 21 (.p 22 .fin)))))))))) 15 (.d 8 (.d 12 (.p 13 (.p 16 (.n 17 (.p 18 (.p 19 (.p 20 (.p 21 (.p 22 .fin))))))))))) 8 (.b2 5 (.b2 12 (.p 13 (.n 15 (.p 16 (.n 17 (.p 18 (.p 19 (.p 20 (.p 21 (.p 22 .fin))))))))) 15 (.d 12 (.p 13 (.p 16 (.n 17 (.p 18 (.p 19 (.p 20 (.p 21 (.p 22 .fin)))))))))) 12 (.p 13 (.n 5 (.n 15 (.p 16 (.n 17 (.p 18 (.p 19 (.p 20 (.p 21 (.p 22 .fin))))))))))) 12 (.b2 5 (.b2 8 (.p 13 (.n 15 (.p 16 (.n 17 (.p 18 (.p 19 (.p 20 (.p 21 (.p 22 .fin))))))))) 15 (.d 8 (.p 13 (.p 16 (.n 17 (.p 18 (.p 19 (.p 20 (.p 21 (.p 22 .fin)))))))))) 8 (.p 13 (.n 5 (.n 15 (.p 16 (.n 17 (.p 18 (.p 19 (.p 20 (.p 21 (.p 22 .fin)))))))))))) 5 (.b4 3 (.b3 8 (.b2 12 (.p 13 (.n 15 (.p 16 (.n 17 (.p 18 (.p 19 (.p 20 (.p 21 (.p 22 .fin))))))))) 15 (.d 12 (.p 13 (.p 16 (.n 17 (.p 18 (.p 19 (.p 20 (.p 21 (.p 22 .fin)))))))))) 12 (.b2 8 (.p 13 (.n 15 (.p 16 (.n 17 (.p 18 (.p 19 (.p 20 (.p 21 (.p 22 .fin))))))))) 15 (.d 8 (.p 13 (.p 16 (.n 17 (.p 18 (.p 19 (.p 20 (.p 21 (.p 22 .fin)))))))))) 15 (.d 8 (.d 12 (.p 13 (.p 16 (.n 17 (.p 18 (.p 19 (.p 20 (.p 21 (.p 22 .fin))))))))))) 8 (.b3 3 (.b2 12 (.p 13 (.n 15 (.p 16 (.n 17 (.p 18 (.p 19 (.p 20 (.p 21 (.p 22 .fin))))))))) 15 (.d 12 (.p 13 (.p 16 (.n 17 (.p 18 (.p 19 (.p 20 (.p 21 (.p 22 .fin)))))))))) 12 (.p 13 (.b2 3 (.n 15 (.p 16 (.n 17 (.p 18 (.p 19 (.p 20 (.p 21 (.p 22 .fin)))))))) 15 (.p 16 (.d 3 (.n 17 (.p 18 (.p 19 (.p 20 (.p 21 (.p 22 .fin)))))))))) 15 (.d 3 (.d 12 (.p 13 (.p 16 (.n 17 (.p 18 (.p 19 (.p 20 (.p 21 (.p 22 .fin))))))))))) 12 (.b3 3 (.b2 8 (.p 13 (.n 15 (.p 16 (.n 17 (.p 18 (.p 19 (.p 20 (.p 21 (.p 22 .fin))))))))) 15 (.d 8 (.p 13 (.p 16 (.n 17 (.p 18 (.p 19 (.p 20 (.p 21 (.p 22 .fin)))))))))) 8 (.p 13 (.b2 3 (.n 15 (.p 16 (.n 17 (.p 18 (.p 19 (.p 20 (.p 21 (.p 22 .fin)))))))) 15 (.p 16 (.d 3 (.n 17 (.p 18 (.p 19 (.p 20 (.p 21 (.p 22 .fin)))))))))) 15 (.d 3 (.d 8 (.p 13 (.p 16 (.n 17 (.p 18 (.p 19 (.p 20 (.p 21 (.p 22 .fin))))))))))) 15 (.d 3 (.d 8 (.d 12 (.p 13 (.p 16 (.n 17 (.p 18 (.p 19 (.p 20 (.p 21 (.p 22 .fin)))))))))))) 8 (.b3 3 (.b2 5 (.b2 12 (.p 13 (.n 15 (.p 16 (.n 17 (.p 18 (.p 19 (.p 20 (.p 21 (.p 22 .fin))))))))) 15 (.d 12 (.p 13 (.p 16 (.n 17 (.p 18 (.p 19 (.p 20 (.p 21 (.p 22 .fin)))))))))) 12 (.p 13 (.n 5 (.n 15 (.p 16 (.n 17 (.p 18 (.p 19 (.p 20 (.p 21 (.p 22 .fin))))))))))) 5 (.b3 3 (.b2 12 (.p 13 (.n 15 (.p 16 (.n 17 (.p 18 (.p 19 (.p 20 (.p 21 (.p 22 .fin))))))))) 15 (.d 12 (.p 13 (.p 16 (.n 17 (.p 18 (.p 19 (.p 20 (.p 21 (.p 22 .fin)))))))))) 12 (.p 13 (.b2 3 (.n 15 (.p 16 (.n 17 (.p 18 (.p 19 (.p 20 (.p 21 (.p 22 .fin)))))))) 15 (.p 16 (.d 3 (.n 17 (.p 18 (.p 19 (.p 20 (.p 21 (.p 22 .fin)))))))))) 15 (.d 3 (.d 12 (.p 13 (.p 16 (.n 17 (.p 18 (.p 19 (.p 20 (.p 21 (.p 22 .fin))))))))))) 12 (.p 13 (.b2 3 (.n 5 (.n 15 (.p 16 (.n 17 (.p 18 (.p 19 (.p 20 (.p 21 (.p 22 .fin))))))))) 5 (.b2 3 (.n 15 (.p 16 (.n 17 (.p 18 (.p 19 (.p 20 (.p 21 (.p 22 .fin)))))))) 15 (.p 16 (.d 3 (.n 17 (.p 18 (.p 19 (.p 20 (.p 21 (.p 22 .fin)))))))))))) 12 (.b3 3 (.b2 5 (.b2 8 (.p 13 (.n 15 (.p 16 (.n 17 (.p 18 (.p 19 (.p 20 (.p 21 (.p 22 .fin))))))))) 15 (.d 8 (.p 13 (.p 16 (.n 17 (.p 18 (.p 19 (.p 20 (.p 21 (.p 22 .fin)))))))))) 8 (.p 13 (.n 5 (.n 15 (.p 16 (.n 17 (.p 18 (.p 19 (.p 20 (.p 21 (.p 22 .fin))))))))))) 5 (.b3 3 (.b2 8 (.p 13 (.n 15 (.p 16 (.n 17 (.p 18 (.p 19 (.p 20 (.p 21 (.p 22 .fin))))))))) 15 (.d 8 (.p 13 (.p 16 (.n 17 (.p 18 (.p 19 (.p 20 (.p 21 (.p 22 .fin)))))))))) 8 (.p 13 (.b2 3 (.n 15 (.p 16 (.n 17 (.p 18 (.p 19 (.p 20 (.p 21 (.p 22 .fin)))))))) 15 (.p 16 (.d 3 (.n 17 (.p 18 (.p 19 (.p 20 (.p 21 (.p 22 .fin)))))))))) 15 (.d 3 (.d 8 (.p 13 (.p 16 (.n 17 (.p 18 (.p 19 (.p 20 (.p 21 (.p 22 .fin))))))))))) 8 (.p 13 (.b2 3 (.n 5 (.n 15 (.p 16 (.n 17 (.p 18 (.p 19 (.p 20 (.p 21 (.p 22 .fin))))))))) 5 (.b2 3 (.n 15 (.p 16 (.n 17 (.p 18 (.p 19 (.p 20 (.p 21 (.p 22 .fin)))))))) 15 (.p 16 (.d 3 (.n 17 (.p 18 (.p 19 (.p 20 (.p 21 (.p 22 .fin))))))))))))))))))))))) ?_
      | refine And.intro (fun hc => ?_) (fun hc => ?_)
      | refine And.intro ?_ ?_
      | intro b
      | refine stp ?_
      | refine TQ.finC ?_
      | refine TQ.finC2 ?_
      | refine TQ.finC3 ?_
      | refine ⟨fun hc => ?_, fun hc => ?_⟩
      | refine Ei.f ?_
      | refine ⟨?_, ?_⟩
      | intro b
      | omega
      | (dsimp only; omega)
      | fail)
instance {L : List Assn} {z : Int} {t : List UInt8} {pad : Int} : FnR Tryd.prog 20 [.pointer none, .agg #[.int .u8 z, str t], .int .i64 pad] L (fun kk => Vc (True) (kk (asResult [str [], .int .i64 (1 : Nat)]) L)) := ⟨fun kk h => ⟨[], L, _, seal_nil z t pad, .nil _, fun v L' hq => by rw [hq.1, hq.2]; exact h.r⟩⟩
theorem open_nil (s : List UInt8) :
    Sat Tryd.prog 22 [.pointer none, str s] [] (fun u L' => u = asResult [.agg (recV (0, [])).toArray, .int .i64 (1 : Nat)] ∧ L' = []) := by
  all_goals
    refine Sat.enter Tryd.func22 rfl Tryd.ntmps22 rfl (fun c R => ?_)
    try simp only [List.cons_append, List.nil_append]
    repeat' (first
      | exact Fini.of ⟨rfl, rfl⟩ (Imp.nil _)
      | exact Fini.mk ⟨rfl, rfl⟩
      | (exact absurd hc (by decide))
      | exact absurd rfl hc
      | refine T.pl 3 [] (.p 0 (.p 1 (.p 4 (.p 5 (.d 2 (.d 3 (.d 6 (.d 7 (.p 8 (.p 9 .fin)))))))))) ?_
      | refine T.pl 7 [5, 8, 10] (.p 0 (.p 1 (.p 4 (.p 6 (.p 7 (.p 9 (.p 2 (.b2 3 (.n 5 (.n 8 (.n 10 (.p 11 (.p 12 (.p 13 (.p 14 (.p 15 .fin)))))))) 5 (.b2 3 (.n 8 (.n 10 (.p 11 (.p 12 (.p 13 (.p 14 (.p 15 .fin))))))) 8 (.d 3 (.n 10 (.p 11 (.p 12 (.p 13 (.p 14 (.p 15 .fin)))))))))))))))) ?_
      | refine T.pl 17 [7] (.p 0 (.p 1 (.p 2 (.p 3 (.p 4 (.p 5 (.p 6 (.n 7 (.p 8 .fin))))))))) ?_
      | refine And.intro (fun hc => ?_) (fun hc => ?_)
      | refine And.intro ?_ ?_
      | intro b
      | refine stp ?_
      | refine TQ.finC ?_
      | refine TQ.finC2 ?_
      | refine TQ.finC3 ?_
      | refine ⟨fun hc => ?_, fun hc => ?_⟩
      | refine Ei.f ?_
      | refine ⟨?_, ?_⟩
      | intro b
      | omega
      | (dsimp only; omega)
      | fail)
instance {L : List Assn} {s : List UInt8} : FnR Tryd.prog 22 [.pointer none, str s] L (fun kk => Vc (True) (kk (asResult [.agg (recV (0, [])).toArray, .int .i64 (1 : Nat)]) L)) := ⟨fun kk h => ⟨[], L, _, open_nil s, .nil _, fun v L' hq => by rw [hq.1, hq.2]; exact h.r⟩⟩
theorem traffic_spec  :
    Sat Tryd.prog 29 [] [] (fun u L' => u = .agg #[str (List.replicate 32 0), str [0, 0, 0, 0, 0, 0, 0, 0, 0, 0, 0, 0]] ∧ L' = []) := by
  all_goals
    refine Sat.enter Tryd.func29 rfl Tryd.ntmps29 rfl (fun c R => ?_)
    try simp only [List.cons_append, List.nil_append]
    repeat' (first
      | exact Fini.of ⟨rfl, rfl⟩ (Imp.nil _)
      | exact Fini.mk ⟨rfl, rfl⟩
      | (exact absurd hc (by decide))
      | exact absurd rfl hc
      | refine T.pk 1 [0, 2, 5] (.b2 0 (.g 1 (.n 2 (.g 3 (.p 4 (.n 5 .fin))))) 2 (.g 3 (.n 0 (.g 1 (.p 4 (.n 5 .fin)))))) ?_
      | refine And.intro (fun hc => ?_) (fun hc => ?_)
      | refine And.intro ?_ ?_
      | intro b
      | refine stk ?_
      | refine stp ?_
      | refine TQ.finC ?_
      | refine TQ.finC2 ?_
      | refine TQ.finC3 ?_
      | refine ⟨fun hc => ?_, fun hc => ?_⟩
      | refine Ei.f ?_
      | refine ⟨?_, ?_⟩
      | intro b
      | omega
      | (dsimp only; omega)
      | fail)
instance {L : List Assn}  : FnR Tryd.prog 29 [] L (fun kk => Vc (True) (kk (.agg #[str (List.replicate 32 0), str [0, 0, 0, 0, 0, 0, 0, 0, 0, 0, 0, 0]]) L)) := ⟨fun kk h => ⟨[], L, _, traffic_spec, .nil _, fun v L' hq => by rw [hq.1, hq.2]; exact h.r⟩⟩

end Go.Proofs.YthbpjjlinebooaaDoor


namespace Go.Proofs.YthbpjjlinebooaaDoor
open Go Pw
set_option maxRecDepth 20000
set_option maxHeartbeats 4000000
set_option synthInstance.maxHeartbeats 400000
set_option synthInstance.maxSize 4000
set_option maxHeartbeats 1000000
attribute [local irreducible] sealH openH mayE fedE fltE lngE takeE
theorem seal_spec (p ct mo : Nat) (key : List UInt8) (i0 i1 i2 i3 i4 i5 i6 i7 i8 i9 i10 i11 : UInt8) (k : Nat) (t : List UInt8) (hk : key.length = 32) (hct : ct ≤ 4294967296) (hmo : mo ≤ 4294967296) (hm0 : 0 < mo) (hk2 : k < 256) (ht : t.length < 4611686018427387904) (pad : Int) (h1 : -9223372036854775808 ≤ pad) (h2 : pad < 9223372036854775808) :
    Sat Tryd.prog 20 [.pointer (some ⟨p, 0, none⟩), .agg #[.int .u8 (k : Nat), str t], .int .i64 pad] [Pw.row 87 p [str key, byteV i0, byteV i1, byteV i2, byteV i3, byteV i4, byteV i5, byteV i6, byteV i7, byteV i8, byteV i9, byteV i10, byteV i11, .int .u64 (ct : Nat), .int .u64 (mo : Nat)], quA] (fun u L' => u = asResult [str (sealH key [i0, i1, i2, i3, i4, i5, i6, i7, i8, i9, i10, i11] ct mo k t pad).1, .int .i64 ((sealH key [i0, i1, i2, i3, i4, i5, i6, i7, i8, i9, i10, i11] ct mo k t pad).2.1 : Nat)] ∧ L' = [Pw.row 87 p [str key, byteV i0, byteV i1, byteV i2, byteV i3, byteV i4, byteV i5, byteV i6, byteV i7, byteV i8, byteV i9, byteV i10, byteV i11, .int .u64 ((sealH key [i0, i1, i2, i3, i4, i5, i6, i7, i8, i9, i10, i11] ct mo k t pad).2.2 : Nat), .int .u64 (mo : Nat)], quA]) := by
  rcases Int.lt_or_le pad 0 with h | h
  · exact seal_neg p ct mo key i0 i1 i2 i3 i4 i5 i6 i7 i8 i9 i10 i11 k t hk hct hmo hm0 hk2 ht pad h h1
  · obtain ⟨n, rfl⟩ := Int.eq_ofNat_of_zero_le h
    exact seal_nat p ct mo key i0 i1 i2 i3 i4 i5 i6 i7 i8 i9 i10 i11 k t hk hct hmo hm0 hk2 ht n (by omega)
theorem rseal_spec (p ct mo k : Nat) (key iv t : List UInt8) (hk : key.length = 32) (hi : iv.length = 12) (hct : ct ≤ 4294967296) (hmo : mo ≤ 4294967296) (hk2 : k < 256) (ht : t.length < 4611686018427387904) (pad : Int) (h1 : -9223372036854775808 ≤ pad) (h2 : pad < 9223372036854775808) :
    Sat Tryd.prog 21 [.pointer (some ⟨p, 0, none⟩), .agg #[.int .u8 (k : Nat), str t], .int .i64 pad] [Pw.row 70 p [str key, str iv, .int .u64 (ct : Nat), .int .u64 (mo : Nat)]] (fun u L' => u = asResult [str (sealH key iv ct mo k t pad).1, .int .i64 ((sealH key iv ct mo k t pad).2.1 : Nat)] ∧ L' = [Pw.row 70 p [str key, str iv, .int .u64 ((sealH key iv ct mo k t pad).2.2 : Nat), .int .u64 (mo : Nat)]]) := by
  rcases Int.lt_or_le pad 0 with h | h
  · exact rseal_neg p ct mo k key iv t hk hi hct hmo hk2 ht pad h h1
  · obtain ⟨n, rfl⟩ := Int.eq_ofNat_of_zero_le h
    exact rseal_nat p ct mo k key iv t hk hi hct hmo hk2 ht n (by omega)
instance {L R R2 : List Assn} {p ct mo : Nat} {x y : Int} {key t : List UInt8} {k : Nat} {z pad : Int} {i0 i1 i2 i3 i4 i5 i6 i7 i8 i9 i10 i11 : UInt8} [hx : Nn x ct] [hy : Nn y mo] [hk : Nn z k] [hd : RowDel L p 87 [str key, byteV i0, byteV i1, byteV i2, byteV i3, byteV i4, byteV i5, byteV i6, byteV i7, byteV i8, byteV i9, byteV i10, byteV i11, .int .u64 x, .int .u64 y] R] [hq : DelC quA R R2] : FnR Tryd.prog 20 [.pointer (some ⟨p, 0, none⟩), .agg #[.int .u8 z, str t], .int .i64 pad] L (fun q => Vc (key.length = 32 ∧ ct ≤ 4294967296 ∧ mo ≤ 4294967296 ∧ 0 < mo ∧ k < 256 ∧ t.length < 4611686018427387904 ∧ -9223372036854775808 ≤ pad ∧ pad < 9223372036854775808) (q (asResult [str (sealH key [i0, i1, i2, i3, i4, i5, i6, i7, i8, i9, i10, i11] ct mo k t pad).1, .int .i64 ((sealH key [i0, i1, i2, i3, i4, i5, i6, i7, i8, i9, i10, i11] ct mo k t pad).2.1 : Nat)]) (Pw.row 87 p [str key, byteV i0, byteV i1, byteV i2, byteV i3, byteV i4, byteV i5, byteV i6, byteV i7, byteV i8, byteV i9, byteV i10, byteV i11, .int .u64 ((sealH key [i0, i1, i2, i3, i4, i5, i6, i7, i8, i9, i10, i11] ct mo k t pad).2.2 : Nat), .int .u64 (mo : Nat)] :: quA :: R2))) :=
  ⟨fun q h => ⟨_, R2, _, by rw [hk.h]; exact seal_spec p ct mo key i0 i1 i2 i3 i4 i5 i6 i7 i8 i9 i10 i11 k t h.l.1 h.l.2.1 h.l.2.2.1 h.l.2.2.2.1 h.l.2.2.2.2.1 h.l.2.2.2.2.2.1 pad h.l.2.2.2.2.2.2.1 h.l.2.2.2.2.2.2.2, .cons (by have := hd.h; rw [hx.h, hy.h] at this; exact this) (.cons hq.h (.nil _)), fun v L' hv => by rw [hv.1, hv.2]; exact h.r⟩⟩
instance {L R : List Assn} {p ct mo : Nat} {x y : Int} {key iv t : List UInt8} {k : Nat} {z pad : Int} [hx : Nn x ct] [hy : Nn y mo] [hk : Nn z k] [hd : RowDel L p 70 [str key, str iv, .int .u64 x, .int .u64 y] R] : FnR Tryd.prog 21 [.pointer (some ⟨p, 0, none⟩), .agg #[.int .u8 z, str t], .int .i64 pad] L (fun q => Vc (key.length = 32 ∧ iv.length = 12 ∧ ct ≤ 4294967296 ∧ mo ≤ 4294967296 ∧ k < 256 ∧ t.length < 4611686018427387904 ∧ -9223372036854775808 ≤ pad ∧ pad < 9223372036854775808) (q (asResult [str (sealH key iv ct mo k t pad).1, .int .i64 ((sealH key iv ct mo k t pad).2.1 : Nat)]) (Pw.row 70 p [str key, str iv, .int .u64 ((sealH key iv ct mo k t pad).2.2 : Nat), .int .u64 (mo : Nat)] :: R))) :=
  ⟨fun q h => ⟨_, R, _, by rw [hk.h]; exact rseal_spec p ct mo k key iv t h.l.1 h.l.2.1 h.l.2.2.1 h.l.2.2.2.1 h.l.2.2.2.2.1 h.l.2.2.2.2.2.1 pad h.l.2.2.2.2.2.2.1 h.l.2.2.2.2.2.2.2, Pick.of1 (by have := hd.h; rw [hx.h, hy.h] at this; exact this), fun v L' hv => by rw [hv.1, hv.2]; exact h.r⟩⟩
instance {L R R2 : List Assn} {p ct mo : Nat} {x y : Int} {key s : List UInt8} {i0 i1 i2 i3 i4 i5 i6 i7 i8 i9 i10 i11 : UInt8} [hx : Nn x ct] [hy : Nn y mo]  [hd : RowDel L p 87 [str key, byteV i0, byteV i1, byteV i2, byteV i3, byteV i4, byteV i5, byteV i6, byteV i7, byteV i8, byteV i9, byteV i10, byteV i11, .int .u64 x, .int .u64 y] R] [hq : DelC quA R R2] : FnR Tryd.prog 22 [.pointer (some ⟨p, 0, none⟩), str s] L (fun q => Vc (ct ≤ 4294967296 ∧ mo ≤ 4294967296 ∧ 0 < mo ∧ s.length < 4611686018427387904) (q (asResult [.agg (recV (openH key [i0, i1, i2, i3, i4, i5, i6, i7, i8, i9, i10, i11] ct mo s).1).toArray, .int .i64 ((openH key [i0, i1, i2, i3, i4, i5, i6, i7, i8, i9, i10, i11] ct mo s).2.1 : Nat)]) (Pw.row 87 p [str key, byteV i0, byteV i1, byteV i2, byteV i3, byteV i4, byteV i5, byteV i6, byteV i7, byteV i8, byteV i9, byteV i10, byteV i11, .int .u64 ((openH key [i0, i1, i2, i3, i4, i5, i6, i7, i8, i9, i10, i11] ct mo s).2.2 : Nat), .int .u64 (mo : Nat)] :: quA :: R2))) :=
  ⟨fun q h => ⟨_, R2, _, by exact open_spec p ct mo key i0 i1 i2 i3 i4 i5 i6 i7 i8 i9 i10 i11 s h.l.1 h.l.2.1 h.l.2.2.1 h.l.2.2.2, .cons (by have := hd.h; rw [hx.h, hy.h] at this; exact this) (.cons hq.h (.nil _)), fun v L' hv => by rw [hv.1, hv.2]; exact h.r⟩⟩
instance {L R : List Assn} {p ct mo : Nat} {x y : Int} {key iv s : List UInt8} [hx : Nn x ct] [hy : Nn y mo]  [hd : RowDel L p 70 [str key, str iv, .int .u64 x, .int .u64 y] R] : FnR Tryd.prog 23 [.pointer (some ⟨p, 0, none⟩), str s] L (fun q => Vc (iv.length = 12 ∧ ct ≤ 4294967296 ∧ mo ≤ 4294967296 ∧ s.length < 4611686018427387904) (q (asResult [.agg (recV (openH key iv ct mo s).1).toArray, .int .i64 ((openH key iv ct mo s).2.1 : Nat)]) (Pw.row 70 p [str key, str iv, .int .u64 ((openH key iv ct mo s).2.2 : Nat), .int .u64 (mo : Nat)] :: R))) :=
  ⟨fun q h => ⟨_, R, _, by exact ropen_spec p ct mo key iv s h.l.1 h.l.2.1 h.l.2.2.1 h.l.2.2.2, Pick.of1 (by have := hd.h; rw [hx.h, hy.h] at this; exact this), fun v L' hv => by rw [hv.1, hv.2]; exact h.r⟩⟩
instance {L R : List Assn} {p ct mo : Nat} {x y : Int} {key v0 v1 v2 v3 v4 v5 v6 v7 v8 v9 v10 v11 : Value} [hx : Nn x ct] [hy : Nn y mo] [hd : RowDel L p 87 [key, v0, v1, v2, v3, v4, v5, v6, v7, v8, v9, v10, v11, .int .u64 x, .int .u64 y] R] : FnR Tryd.prog 24 [.pointer (some ⟨p, 0, none⟩)] L (fun q => Vc (0 < mo ∧ mo < 18446744073709551616) (q (.int .u64 (ct : Nat)) (Pw.row 87 p [key, v0, v1, v2, v3, v4, v5, v6, v7, v8, v9, v10, v11, .int .u64 ct, .int .u64 mo] :: R))) :=
  ⟨fun q h => ⟨_, R, _, count_spec p ct mo key v0 v1 v2 v3 v4 v5 v6 v7 v8 v9 v10 v11 h.l.1 h.l.2, Pick.of1 (by have := hd.h; rw [hx.h, hy.h] at this; exact this), fun v L' hq => by rw [hq.1, hq.2]; exact h.r⟩⟩
instance (priority := 1500) {L : List Assn} {key : List UInt8} {i0 i1 i2 i3 i4 i5 i6 i7 i8 i9 i10 i11 : UInt8} {m : Nat} {x : Int} [hx : Nn x m] : FnR Tryd.prog 17 [.agg #[str key, str [i0, i1, i2, i3, i4, i5, i6, i7, i8, i9, i10, i11]], .int .u64 x] L (fun q => Vc (key.length = 32 ∧ 1 ≤ m ∧ m ≤ 4294967296) (∀ p, q (asResult [.pointer (some ⟨p, 0, none⟩), .int .i64 (0 : Nat)]) (Pw.row 87 p [str key, byteV i0, byteV i1, byteV i2, byteV i3, byteV i4, byteV i5, byteV i6, byteV i7, byteV i8, byteV i9, byteV i10, byteV i11, .int .u64 (0 : Nat), .int .u64 (m : Nat)] :: L))) :=
  ⟨fun q h => ⟨[], L, _, by rw [hx.h]; exact new_spec key i0 i1 i2 i3 i4 i5 i6 i7 i8 i9 i10 i11 m h.l.1 h.l.2.1 h.l.2.2, .nil _, fun v L' hv => by
    obtain ⟨p, h1, h2⟩ := hv
    rw [h1, h2]; exact h.r p⟩⟩
instance {L : List Assn} {key iv : List UInt8} {m : Nat} {x : Int} [hx : Nn x m] : FnR Tryd.prog 17 [.agg #[str key, str iv], .int .u64 x] L (fun q => Vc (m < 18446744073709551616 ∧ key.length < 4611686018427387904 ∧ iv.length < 4611686018427387904 ∧ ¬ mayE key iv m) (q (asResult [.pointer none, .int .i64 (2 : Nat)]) L)) :=
  ⟨fun q h => ⟨[], L, _, by rw [hx.h]; exact new_bad key iv m h.l.1 h.l.2.1 h.l.2.2.1 h.l.2.2.2, .nil _, fun v L' hv => by
    rw [hv.1, hv.2]; exact h.r⟩⟩
instance {L : List Assn} {key iv : List UInt8} {m : Nat} {x : Int} [hx : Nn x m] : FnR Tryd.prog 18 [.agg #[str key, str iv], .int .u64 x] L (fun q => Vc (m < 18446744073709551616 ∧ key.length < 4611686018427387904 ∧ iv.length < 4611686018427387904) ((mayE key iv m → ∀ p, q (asResult [.pointer (some ⟨p, 0, none⟩), .int .i64 (0 : Nat)]) (Pw.row 70 p [str key, str iv, .int .u64 (0 : Nat), .int .u64 (m : Nat)] :: L)) ∧ (¬ mayE key iv m → q (asResult [.pointer none, .int .i64 (2 : Nat)]) L))) :=
  ⟨fun q h => ⟨[], L, _, by rw [hx.h]; exact rnew_spec key iv m h.l.1 h.l.2.1 h.l.2.2, .nil _, fun v L' hv => by
    rcases hv with ⟨hm, p, h1, h2⟩ | ⟨hm, h1, h2⟩
    · rw [h1, h2]; exact h.r.1 hm p
    · rw [h1, h2]; exact h.r.2 hm⟩⟩
instance {L : List Assn} : FnR Tryd.prog 10 [] L (fun q => ∀ p, q (.pointer (some ⟨p, 0, none⟩)) (Pw.row 80 p [.slice none ([] : List UInt8).length 0, .int .i64 (0 : Nat), .bool true] :: sl 5 1 (.slice none ([] : List UInt8).length 0) ([] : List UInt8).length (([] : List UInt8).map byteV) :: L)) :=
  ⟨fun q h => ⟨[], L, _, newReader_spec, .nil _, fun v L' hv => by
    obtain ⟨p, h1, h2⟩ := hv
    rw [h1, h2]; exact h p⟩⟩
instance {L R : List Assn} {p f n k : Nat} {a : Option Addr} {x : Int} [hx : Nn x f] [hd : RowDel L p 80 [.slice a n k, .int .i64 x, .bool true] R] : FnR Tryd.prog 14 [.pointer (some ⟨p, 0, none⟩)] L (fun q => Vc (f < 9223372036854775808) (q (.int .i64 ((if f ≠ 0 then 0 else n : Nat))) (Pw.row 80 p [.slice a n k, .int .i64 (f : Nat), .bool true] :: R))) :=
  ⟨fun q h => ⟨_, R, _, left_spec p n k f a h.l, Pick.of1 (by have := hd.h; rw [hx.h] at this; exact this), fun v L' hq => by rw [hq.1, hq.2]; exact h.r⟩⟩
instance {L R : List Assn} {p f : Nat} {bs s : List UInt8} {x : Int} [hx : Nn x f] [hd : RowDel L p 28 [str bs, .int .i64 x] R] : FnR Tryd.prog 12 [.pointer (some ⟨p, 0, none⟩), str s] L (fun q => Vc (f < 9223372036854775808 ∧ okR bs f ∧ s.length < 1099511627776) (∀ a2 k2, q (asResult [.slice a2 (fedE (bs, f, []) s).2.2.length k2, .int .i64 ((fedE (bs, f, []) s).2.1 : Nat)]) (Pw.row 28 p [str (fedE (bs, f, []) s).1, .int .i64 ((fedE (bs, f, []) s).2.1 : Nat)] :: rdL 44 2 (.slice a2 (fedE (bs, f, []) s).2.2.length k2) (fedE (bs, f, []) s).2.2.length ((fedE (bs, f, []) s).2.2.flatMap recV) :: R))) :=
  ⟨fun q h => ⟨_, R, _, rfeed_spec p f bs s h.l.1 h.l.2.1 h.l.2.2, Pick.of1 (by have := hd.h; rw [hx.h] at this; exact this), fun v L' hv => by
    obtain ⟨a2, k2, h1, h2⟩ := hv
    rw [h1, h2]; exact h.r a2 k2⟩⟩
instance {L : List Assn} {k : Nat} {x : Int} {s : List UInt8} [hx : Nn x k] : FnR Tryd.prog 25 [.agg #[.int .u8 x, str s]] L (fun q => Vc (k < 256 ∧ s.length < 4611686018427387904) (q (asResult [str (FrameE (k, s)).1, .int .i64 ((FrameE (k, s)).2 : Nat)]) L)) :=
  ⟨fun q h => ⟨[], L, _, by rw [hx.h]; exact Frame_spec (k, s) h.l.1 h.l.2, .nil _, fun v L' hv => by rw [hv.1, hv.2]; exact h.r⟩⟩
instance {L : List Assn} {k : Nat} {x : Int} {s : List UInt8} [hx : Nn x k] : FnR Tryd.prog 26 [.agg #[.int .u8 x, str s]] L (fun q => Vc (k < 256 ∧ s.length < 4611686018427387904) (q (asResult [str (FrameE (k, s)).1, .int .i64 ((FrameE (k, s)).2 : Nat)]) L)) :=
  ⟨fun q h => ⟨[], L, _, by rw [hx.h]; exact refFrame_spec (k, s) h.l.1 h.l.2, .nil _, fun v L' hv => by rw [hv.1, hv.2]; exact h.r⟩⟩
instance (priority := 1300) {x y : Int} {k k' : Nat} {s u : List UInt8} [h1 : Nn x k] [h2 : Nn y k'] : Pu Tryd.prog (.bin .neq 44 (.agg #[.int .u8 x, str s]) (.agg #[.int .u8 y, str u])) (fun q => q (.bool (decide ((k, s) ≠ (k', u))))) := ⟨fun E d op ty pos af g hr q hk => by
  cases hr with | bin e1 e2 => rw [h1.h] at e1; rw [h2.h] at e2; exact ⟨_, DP.to (DP.neOf e1 e2 eg44 (eqRec (k, s) (k', u))) (by simp), hk⟩⟩
instance (priority := 1300) {x y : Int} {k k' : Nat} {s u : List UInt8} [h1 : Nn x k] [h2 : Nn y k'] : Pu Tryd.prog (.bin .eql 44 (.agg #[.int .u8 x, str s]) (.agg #[.int .u8 y, str u])) (fun q => q (.bool (decide ((k, s) = (k', u))))) := ⟨fun E d op ty pos af g hr q hk => by
  cases hr with | bin e1 e2 => rw [h1.h] at e1; rw [h2.h] at e2; exact ⟨_, DP.eqOf e1 e2 eg44 (eqRec (k, s) (k', u)), hk⟩⟩
class RdDel (L : List Assn) (v : Value) (e : outParam TypeId) (sz n : outParam Nat) (xs : outParam (List Value)) (R : outParam (List Assn)) : Prop where h : Del (rdL e sz v n xs) L R
instance (priority := 1100) {L : List Assn} {v : Value} {e : TypeId} {sz n : Nat} {xs : List Value} : RdDel (rdL e sz v n xs :: L) v e sz n xs L := ⟨.head _ _⟩
instance {A : Assn} {L R : List Assn} {v : Value} {e : TypeId} {sz n : Nat} {xs : List Value} [h : RdDel L v e sz n xs R] : RdDel (A :: L) v e sz n xs (A :: R) := ⟨.tail h.h⟩
instance {L R R2 : List Assn} {a1 a2 : Option Addr} {n1 n2 k1 k2 : Nat} {xs ys : List (Nat × List UInt8)} [h1 : RdDel L (.slice a1 n1 k1) 44 2 xs.length (xs.flatMap recV) R] [h2 : RdDel R (.slice a2 n2 k2) 44 2 ys.length (ys.flatMap recV) R2] : FnR Tryd.prog 13 [.slice a1 n1 k1, .slice a2 n2 k2] L (fun q => Vc (n1 = xs.length ∧ n2 = ys.length ∧ xs.length < 4294967296 ∧ ys.length < 4294967296) (q (.bool (decide (xs = ys))) (rdL 44 2 (.slice a1 n1 k1) xs.length (xs.flatMap recV) :: rdL 44 2 (.slice a2 n2 k2) ys.length (ys.flatMap recV) :: R2))) :=
  ⟨fun q h => by
    obtain ⟨⟨rfl, rfl, h3, h4⟩, hq⟩ := h
    exact ⟨_, R2, _, records_spec a1 a2 k1 k2 xs ys h3 h4, .cons h1.h (.cons h2.h (.nil _)), fun v L' hv => by rw [hv.1, hv.2]; exact hq⟩⟩

end Go.Proofs.YthbpjjlinebooaaDoor


namespace Go.Proofs.YthbpjjlinebooaaDoor
open Go Pw
set_option maxRecDepth 20000
set_option maxHeartbeats 4000000
set_option synthInstance.maxHeartbeats 400000
set_option synthInstance.maxSize 4000
set_option maxHeartbeats 1000000

/-! What the small known run comes to. -/
abbrev IV0 : List UInt8 := [0, 0, 0, 0, 0, 0, 0, 0, 0, 0, 0, 0]
def cE : List UInt8 := sealedE k0 IV0 0 ([97, 98, 99] ++ [UInt8.ofNat 23] ++ List.replicate 2 0)
theorem al_F : FrameE (22, [97, 98]) = ([22, 3, 3, 0, 2, 97, 98], 0) := by decide +kernel
theorem al_f1 : fedE ([], 0, []) [22, 3, 3, 0, 2, 97] = ([22, 3, 3, 0, 2, 97], 0, []) := by decide +kernel
theorem al_f2 : fedE ([22, 3, 3, 0, 2, 97], 0, []) [98] = ([], 0, [(22, [97, 98])]) := by decide +kernel
theorem al_f3 : fedE ([], 0, []) [24] = ([24], 253, []) := by decide +kernel
theorem cE_len : cE.length = 22 := by unfold cE; rw [sealed_len List.length_replicate rfl (by decide)]; rfl
theorem al_so : sealH k0 IV0 0 9 23 [97, 98, 99] 2 = (begE 23 22 ++ cE, 0, 1) ∧ openH k0 IV0 0 9 cE = ((23, [97, 98, 99]), 0, 1) := by
  obtain ⟨c, h1, h2, h3⟩ := seals_opens (key := k0) (iv := IV0) (t := [97, 98, 99]) (ct := 0) (mo := 9) (k := 23) (pad := 2) List.length_replicate rfl (by decide) (by decide) (.inl rfl) (by decide) (by decide)
  have e : sealH k0 IV0 0 9 23 [97, 98, 99] ((2 : Nat) : Int) = (begE 23 cE.length ++ cE, 0, 1) := sealH_0 (by decide) (by decide) (by decide)
  rw [h1] at e
  have h4 : c = cE := by
    have := congrArg (fun x => x.1.drop 5) e
    dsimp only at this
    rwa [List.drop_left' (begE_len _ _), List.drop_left' (begE_len _ _)] at this
  subst h4
  refine ⟨?_, h3⟩
  rw [show (2 : Int) = ((2 : Nat) : Int) from rfl, h1, cE_len]
theorem al_S : sealH k0 IV0 0 9 23 [97, 98, 99] 2 = (begE 23 22 ++ cE, 0, 1) := al_so.1
theorem al_O1 : openH k0 IV0 0 9 cE = ((23, [97, 98, 99]), 0, 1) := al_so.2
theorem al_l : (begE 23 22 ++ cE).length = 27 := by rw [List.length_append, begE_len, cE_len]
theorem al_d : (begE 23 22 ++ cE).drop 5 = cE := List.drop_left' (begE_len _ _)
theorem al_e : (openE k0 IV0 1 cE).2 = 130 := by
  have e : cE = turnedE k0 (nonE IV0 0) ([97, 98, 99] ++ [UInt8.ofNat 23] ++ List.replicate 2 0) ++ sealE k0 (nonE IV0 0) (begE 23 22) (turnedE k0 (nonE IV0 0) ([97, 98, 99] ++ [UInt8.ofNat 23] ++ List.replicate 2 0)) := by
    rw [cE, sealedE, SealE, if_pos ⟨List.length_replicate, by decide⟩, if_neg (by decide)]
    rfl
  have ht : cE.take 6 = turnedE k0 (nonE IV0 0) ([97, 98, 99] ++ [UInt8.ofNat 23] ++ List.replicate 2 0) := by rw [e]; exact List.take_left' (turnedE_len _ _ _)
  have hd : cE.drop 6 = sealE k0 (nonE IV0 0) (begE 23 22) (turnedE k0 (nonE IV0 0) ([97, 98, 99] ++ [UInt8.ofNat 23] ++ List.replicate 2 0)) := by rw [e]; exact List.drop_left' (turnedE_len _ _ _)
  rw [openE, OpenE, if_pos ⟨List.length_replicate, by decide⟩, cE_len, if_neg (by decide)]
  rw [show 22 - 16 = 6 from rfl, ht, hd]
  have hx : ¬ sealE k0 (nonE IV0 1) (begE 23 22) (turnedE k0 (nonE IV0 0) ([97, 98, 99] ++ [UInt8.ofNat 23] ++ List.replicate 2 0)) = sealE k0 (nonE IV0 0) (begE 23 22) (turnedE k0 (nonE IV0 0) ([97, 98, 99] ++ [UInt8.ofNat 23] ++ List.replicate 2 0)) := by
    unfold sealE turnedE turnP ksE blockE
    decide +kernel
  rw [if_pos (.inr hx)]
theorem al_O2 : openH k0 IV0 1 9 cE = ((0, []), 252, 1) := openH_m (by decide) (by rw [cE_len]; decide) (by rw [al_e]; decide)

end Go.Proofs.YthbpjjlinebooaaDoor


namespace Go.Proofs.YthbpjjlinebooaaDoor
open Go Pw
set_option maxRecDepth 20000
set_option maxHeartbeats 4000000
set_option synthInstance.maxHeartbeats 400000
set_option synthInstance.maxSize 4000
set_option maxHeartbeats 2000000
attribute [local irreducible] FrameE fedE sealH openH cE mayE begE
theorem alive_spec  :
    Sat Tryd.prog 9 [] [quA] (fun u L' => u = .bool true ∧ L' = [quA]) := by
  all_goals
    refine Sat.enter Tryd.func9 rfl Tryd.ntmps9 rfl (fun c R => ?_)
    try simp only [List.cons_append, List.nil_append]
    repeat' (first
      | (rw [show List.take 6 ([22, 3, 3, 0, 2, 97, 98] : List UInt8) = [22, 3, 3, 0, 2, 97] from rfl])
      | (rw [show List.drop 6 ([22, 3, 3, 0, 2, 97, 98] : List UInt8) = [98] from rfl])
      | (rw [al_F]; dsimp only)
      | (rw [al_f1]; dsimp only)
      | (rw [al_f2]; dsimp only)
      | (rw [al_f3]; dsimp only)
      | (rw [al_S]; dsimp only)
      | (rw [al_d]; dsimp only)
      | (rw [al_O1]; dsimp only)
      | (rw [al_O2]; dsimp only)
      | (rw [show (if (0 : Nat) ≠ 0 then 0 else ([22, 3, 3, 0, 2, 97] : List UInt8).length) = 6 from rfl])
      | (refine Vc.mk ⟨List.length_replicate, by omega, by omega⟩ ?_)
      | (refine Vc.mk ⟨List.length_replicate, by omega, by omega, by omega, by omega, by decide, by omega, by omega⟩ ?_)
      | (refine Vc.mk ⟨rfl, by omega, by omega, by decide⟩ ?_)
      | (refine Vc.mk ⟨rfl, by omega, fun _ => by decide, by decide⟩ ?_)
      | (refine Vc.mk ⟨by omega, by decide⟩ ?_)
      | (refine Vc.mk ⟨by omega, by omega, by omega, by rw [cE_len]; omega⟩ ?_)
      | (refine Vc.mk (by rw [al_l]; omega) ?_)
      | (refine Vc.mk (by decide) ?_)
      | (refine Vc.mk ⟨rfl, by decide⟩ ?_)
      | exact trivial
      | exact absurd rfl hc
      | exact absurd hc (by decide)
      | exact absurd al_l hc
      | exact absurd (by decide) hc
      | (exact Fini.of ⟨rfl, rfl⟩ (by repeat first | exact Imp.refl _ | (apply Imp.pull; focus ((repeat first | exact Del.head _ _ | apply Del.tail); done)) | apply Imp.drop))
      | (exact Fini.of ⟨congrArg Value.bool (decide_eq_true rfl), rfl⟩ (by repeat first | exact Imp.refl _ | (apply Imp.pull; focus ((repeat first | exact Del.head _ _ | apply Del.tail); done)) | apply Imp.drop))
      | refine And.intro (fun hc => ?_) (fun hc => ?_)
      | refine And.intro ?_ ?_
      | intro b
      | refine stp ?_
      | refine TQ.finC ?_
      | refine TQ.finC2 ?_
      | refine TQ.finC3 ?_
      | refine ⟨fun hc => ?_, fun hc => ?_⟩
      | refine Ei.f ?_
      | refine ⟨?_, ?_⟩
      | intro b
      | omega
      | (dsimp only; omega)
      | (simp only [List.length_append, List.length_replicate, List.length_cons, List.length_nil] <;> omega)
      | fail)
instance {L : List Assn} {R : List Assn} [hd : DelC quA L R] : FnR Tryd.prog 9 [] L (fun q => q (.bool true) (quA :: R)) := ⟨fun q h => ⟨_, R, _, alive_spec, Pick.of1 hd.h, fun v L' hq => by rw [hq.1, hq.2]; exact h⟩⟩

end Go.Proofs.YthbpjjlinebooaaDoor

