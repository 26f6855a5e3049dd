/- Lemmas for the proofs of this seat: no statement of the seat is claimed here. -/
import Derived.Test.YtcidilijlgaohaaDoorKh
import Derived.Test.YtcidilijlgaohaaDoorKj
set_option linter.all false

namespace Go.Proofs.YtcidilijlgaohaaDoor
open Go Pw
set_option maxRecDepth 20000
set_option maxHeartbeats 4000000
set_option maxHeartbeats 1000000
theorem small2_spec (sa sb : List UInt8) (a : Option Addr) (hsa : sa.length ≤ 140737488351232) (hsb : sb.length ≤ 140737488351232) :
    Sat Tryd.prog 9 [.slice a 2 2] [sl 9 (0 + 1) (.slice a 2 2) 2 [str sa, str sb]] (fun u L' => u = .bool (decide (sa.length + sb.length ≤ 4096)) ∧ L' = [sl 9 (0 + 1) (.slice a 2 2) 2 [str sa, str sb]]) := by
  all_goals
    refine Sat.enter Tryd.func9 rfl Tryd.ntmps9 rfl (fun c R => ?_)
    try simp only [List.cons_append, List.nil_append]
    repeat' (first
      | (refine T.atB 0 ?_; refine T.unb 0 3 ?_)
      | exact Fini.mk ⟨congrArg Value.bool (decide_eq_decide.2 (by omega)), rfl⟩
      | refine And.intro (fun hc => ?_) (fun hc => ?_)
      | refine And.intro ?_ ?_
      | intro b
      | refine stp ?_
      | refine TQ.finC ?_
      | refine ⟨fun hc => ?_, fun hc => ?_⟩
      | refine Ei.f ?_
      | refine ⟨?_, ?_⟩
      | intro b
      | omega
      | (dsimp only; omega)
      | (rw [show decide ((0 : Nat) < 2) = true from rfl])
      | (rw [show decide ((1 : Nat) < 2) = true from rfl])
      | (rw [show decide ((2 : Nat) < 2) = false from rfl])
      | (rw [show decide ((0 : Nat) ≤ 4096) = true from rfl])
      | fail)
instance {L R : List Assn} {a : Option Addr} {sa sb : List UInt8} [hd : SlAt L (.slice a 2 2) 9 (0 + 1) 2 [str sa, str sb] R] : FnR Tryd.prog 9 [.slice a 2 2] L (fun q => Vc (sa.length ≤ 140737488351232 ∧ sb.length ≤ 140737488351232) (q (.bool (decide (sa.length + sb.length ≤ 4096))) (sl 9 (0 + 1) (.slice a 2 2) 2 [str sa, str sb] :: R))) :=
  ⟨fun q h => by
    obtain ⟨⟨gsa, gsb⟩, h2⟩ := h
    exact ⟨_, R, _, small2_spec sa sb a gsa gsb, Pick.of1 hd.h, fun v L' hq => by rw [hq.1, hq.2]; exact h2⟩⟩
theorem small3_spec (sa sb sc : List UInt8) (a : Option Addr) (hsa : sa.length ≤ 140737488351232) (hsb : sb.length ≤ 140737488351232) (hsc : sc.length ≤ 140737488351232) :
    Sat Tryd.prog 9 [.slice a 3 3] [sl 9 (0 + 1) (.slice a 3 3) 3 [str sa, str sb, str sc]] (fun u L' => u = .bool (decide (sa.length + sb.length + sc.length ≤ 4096)) ∧ L' = [sl 9 (0 + 1) (.slice a 3 3) 3 [str sa, str sb, str sc]]) := by
  all_goals
    refine Sat.enter Tryd.func9 rfl Tryd.ntmps9 rfl (fun c R => ?_)
    try simp only [List.cons_append, List.nil_append]
    repeat' (first
      | (refine T.atB 0 ?_; refine T.unb 0 4 ?_)
      | exact Fini.mk ⟨congrArg Value.bool (decide_eq_decide.2 (by omega)), rfl⟩
      | refine And.intro (fun hc => ?_) (fun hc => ?_)
      | refine And.intro ?_ ?_
      | intro b
      | refine stp ?_
      | refine TQ.finC ?_
      | refine ⟨fun hc => ?_, fun hc => ?_⟩
      | refine Ei.f ?_
      | refine ⟨?_, ?_⟩
      | intro b
      | omega
      | (dsimp only; omega)
      | (rw [show decide ((0 : Nat) < 3) = true from rfl])
      | (rw [show decide ((1 : Nat) < 3) = true from rfl])
      | (rw [show decide ((2 : Nat) < 3) = true from rfl])
      | (rw [show decide ((3 : Nat) < 3) = false from rfl])
      | (rw [show decide ((0 : Nat) ≤ 4096) = true from rfl])
      | fail)
instance {L R : List Assn} {a : Option Addr} {sa sb sc : List UInt8} [hd : SlAt L (.slice a 3 3) 9 (0 + 1) 3 [str sa, str sb, str sc] R] : FnR Tryd.prog 9 [.slice a 3 3] L (fun q => Vc (sa.length ≤ 140737488351232 ∧ sb.length ≤ 140737488351232 ∧ sc.length ≤ 140737488351232) (q (.bool (decide (sa.length + sb.length + sc.length ≤ 4096))) (sl 9 (0 + 1) (.slice a 3 3) 3 [str sa, str sb, str sc] :: R))) :=
  ⟨fun q h => by
    obtain ⟨⟨gsa, gsb, gsc⟩, h2⟩ := h
    exact ⟨_, R, _, small3_spec sa sb sc a gsa gsb gsc, Pick.of1 hd.h, fun v L' hq => by rw [hq.1, hq.2]; exact h2⟩⟩
theorem small4_spec (sa sb sc sd : List UInt8) (a : Option Addr) (hsa : sa.length ≤ 140737488351232) (hsb : sb.length ≤ 140737488351232) (hsc : sc.length ≤ 140737488351232) (hsd : sd.length ≤ 140737488351232) :
    Sat Tryd.prog 9 [.slice a 4 4] [sl 9 (0 + 1) (.slice a 4 4) 4 [str sa, str sb, str sc, str sd]] (fun u L' => u = .bool (decide (sa.length + sb.length + sc.length + sd.length ≤ 4096)) ∧ L' = [sl 9 (0 + 1) (.slice a 4 4) 4 [str sa, str sb, str sc, str sd]]) := by
  all_goals
    refine Sat.enter Tryd.func9 rfl Tryd.ntmps9 rfl (fun c R => ?_)
    try simp only [List.cons_append, List.nil_append]
    repeat' (first
      | (refine T.atB 0 ?_; refine T.unb 0 5 ?_)
      | exact Fini.mk ⟨congrArg Value.bool (decide_eq_decide.2 (by omega)), rfl⟩
      | refine And.intro (fun hc => ?_) (fun hc => ?_)
      | refine And.intro ?_ ?_
      | intro b
      | refine stp ?_
      | refine TQ.finC ?_
      | refine ⟨fun hc => ?_, fun hc => ?_⟩
      | refine Ei.f ?_
      | refine ⟨?_, ?_⟩
      | intro b
      | omega
      | (dsimp only; omega)
      | (rw [show decide ((0 : Nat) < 4) = true from rfl])
      | (rw [show decide ((1 : Nat) < 4) = true from rfl])
      | (rw [show decide ((2 : Nat) < 4) = true from rfl])
      | (rw [show decide ((3 : Nat) < 4) = true from rfl])
      | (rw [show decide ((4 : Nat) < 4) = false from rfl])
      | (rw [show decide ((0 : Nat) ≤ 4096) = true from rfl])
      | fail)
instance {L R : List Assn} {a : Option Addr} {sa sb sc sd : List UInt8} [hd : SlAt L (.slice a 4 4) 9 (0 + 1) 4 [str sa, str sb, str sc, str sd] R] : FnR Tryd.prog 9 [.slice a 4 4] L (fun q => Vc (sa.length ≤ 140737488351232 ∧ sb.length ≤ 140737488351232 ∧ sc.length ≤ 140737488351232 ∧ sd.length ≤ 140737488351232) (q (.bool (decide (sa.length + sb.length + sc.length + sd.length ≤ 4096))) (sl 9 (0 + 1) (.slice a 4 4) 4 [str sa, str sb, str sc, str sd] :: R))) :=
  ⟨fun q h => by
    obtain ⟨⟨gsa, gsb, gsc, gsd⟩, h2⟩ := h
    exact ⟨_, R, _, small4_spec sa sb sc sd a gsa gsb gsc gsd, Pick.of1 hd.h, fun v L' hq => by rw [hq.1, hq.2]; exact h2⟩⟩

end Go.Proofs.YtcidilijlgaohaaDoor


namespace Go.Proofs.YtcidilijlgaohaaDoor
open Go Pw
set_option maxRecDepth 20000
set_option maxHeartbeats 4000000
set_option maxHeartbeats 1000000
instance {L : List Assn} {key nonce : List UInt8} {y : Int} {n : Nat} [hy : Nn y n] : FnR Tryd.prog 12 [str key, str nonce, .int .u32 y] L (fun kk => Vc (key.length = 32 ∧ nonce.length = 12 ∧ n < 4294967296) (kk (str (blockE key nonce n)) L)) := ⟨fun kk h => ⟨[], L, _, (by rw [hy.h]; exact refBlock_spec key nonce n h.l.1 h.l.2.1 h.l.2.2), .nil _, fun v L' hq => by rw [hq.1, hq.2]; exact h.r⟩⟩

theorem BlockE_ok {key nonce : List UInt8} {n : Nat} (h : ¬ (key.length ≠ 32 ∨ nonce.length ≠ 12)) : BlockE key nonce n = (blockE key nonce n, 0) := by
  rw [BlockE, if_pos (by omega)]
theorem BlockE_no {key nonce : List UInt8} {n : Nat} (h : key.length ≠ 32 ∨ nonce.length ≠ 12) : BlockE key nonce n = ([], 2) := by
  rw [BlockE, if_neg (by omega)]
attribute [local irreducible] b0E c0E BlockE SealE OpenE TagE
theorem blocks_spec (key nonce : List UInt8) (n : Nat) (hk : key.length ≤ 140737488351232) (hn : nonce.length ≤ 140737488351232) (h32 : n < 4294967296) :
    Sat Tryd.prog 3 [str key, str nonce, .int .u32 n] [quA] (fun u L' => u = .bool true ∧ L' = [quA]) := by
  all_goals
    refine Sat.enter Tryd.func3 rfl Tryd.ntmps3 rfl (fun c R => ?_)
    try simp only [List.cons_append, List.nil_append]
    repeat' (first
      | (rw [BlockE_no (by omega)]; dsimp only)
      | (rw [BlockE_ok (by omega)]; dsimp only)
      | exact Fini.mk ⟨rfl, rfl⟩
      | exact absurd rfl hc
      | exact absurd (by omega) hc
      | refine And.intro (fun hc => ?_) (fun hc => ?_)
      | refine And.intro ?_ ?_
      | intro b
      | refine stp ?_
      | refine TQ.finC ?_
      | refine ⟨fun hc => ?_, fun hc => ?_⟩
      | refine Ei.f ?_
      | refine ⟨?_, ?_⟩
      | intro b
      | omega
      | (dsimp only; omega)
      | ((try dsimp only); rw [@decide_eq_true (_ = _) _ rfl])
      | fail)

end Go.Proofs.YtcidilijlgaohaaDoor

