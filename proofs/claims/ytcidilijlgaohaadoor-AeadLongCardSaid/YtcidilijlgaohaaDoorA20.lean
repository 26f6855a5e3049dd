/- Lemmas for the proofs of this seat: no statement of the seat is claimed here. -/
import Derived.Test.YtcidilijlgaohaaDoorA19
set_option linter.all false
namespace Go.Proofs.YtcidilijlgaohaaDoor
open Go Pw
set_option maxRecDepth 20000
set_option maxHeartbeats 4000000
set_option maxHeartbeats 400000
instance {L : List Assn} {R : List Assn} [hd : DelC quA L R] : FnR Tryd.prog 10 [] L (fun q => q (.bool true) (quA :: R)) := ⟨fun q h => ⟨_, R, _, alive_spec, Pick.of1 hd.h, fun v L' hq => by rw [hq.1, hq.2]; exact h⟩⟩

theorem lim64 : ((IntKind.i64.lim : Nat) : Int) = 9223372036854775808 := by simp [IntKind.lim, IntKind.signed, IntKind.bits]
theorem seal_long {ad s : List UInt8} (h : 65536 < max ad.length s.length) : SealE k0 n0 ad s = ([], 4) := by
  rw [SealE, if_pos ⟨List.length_replicate, List.length_replicate⟩, if_pos h]
theorem open_long' {ad s : List UInt8} (h : 65536 < max ad.length (s.length - 16)) : OpenE k0 n0 ad s = ([], 4) := by
  rw [OpenE, if_pos ⟨List.length_replicate, List.length_replicate⟩, if_pos h]
theorem seal_ok {ad s : List UInt8} (h : max ad.length s.length ≤ 65536) : ∃ a, SealE k0 n0 ad s = (a, 0) ∧ OpenE k0 n0 ad a = (s, 0) ∧ a.length = s.length + 16 := by
  have h1 := open_seal (key := k0) (nonce := n0) List.length_replicate List.length_replicate h
  refine ⟨(SealE k0 n0 ad s).1, ?_, h1.1, h1.2.2⟩
  rw [← h1.2.1]
attribute [local irreducible] b0E c0E BlockE SealE OpenE TagE
theorem long_tp (n : Int) (m : Nat) (hm : 65536 + n = (m : Int)) (h1 : -128 ≤ n) (h2 : n ≤ 127) (hn : 0 < n) :
    Sat Tryd.prog 7 [.int .i8 n, .bool true] [quA] (fun u L' => u = .bool true ∧ L' = [quA]) := by
  have hm2 : 65536 + IntKind.i64.wrap n = (m : Int) := by rw [← hm]; simp [IntKind.wrap, IntKind.signed, IntKind.bits, Int.bmod]; omega
  have hbA : -((IntKind.i64.lim : Nat) : Int) ≤ (m : Int) := by rw [lim64]; omega
  have hbB : (m : Int) < ((IntKind.i64.lim : Nat) : Int) := by rw [lim64]; omega
  have hd1 : decide (0 < n) = true := decide_eq_true hn
  have hd2 : decide (n ≤ 0) = false := decide_eq_false (by omega)
  have hlen : ((List.replicate m (0 : UInt8))).length = m := List.length_replicate
  have hS : SealE k0 n0 (List.replicate m (0 : UInt8)) [120] = ([], 4) := seal_long (by rw [hlen]; omega)
  have hO : OpenE k0 n0 (List.replicate m (0 : UInt8)) [] = ([], 4) := open_long' (by rw [hlen]; omega)
  all_goals
    refine Sat.enter Tryd.func7 rfl Tryd.ntmps7 rfl (fun c R => ?_)
    try simp only [List.cons_append, List.nil_append]
    repeat' (first
      | (rw [hm2])
      | refine Vc.mk ⟨hbA, hbB⟩ ?_
      | exact hbA
      | exact hbB
      | (rw [hS]; dsimp only; first | omega | (simp only [List.length_nil]; omega))
      | (refine Vc.mk (by first | (simp only [true_and, and_true, List.length_replicate, List.length_cons, List.length_nil, List.length_append, hlen]; done) | (simp only [true_and, and_true, List.length_replicate, List.length_cons, List.length_nil, List.length_append, hlen]; omega)) ?_)
      | (refine Vc.mk (by rw [hS]; dsimp only; first | omega | (simp only [true_and, and_true, List.length_replicate, List.length_cons, List.length_nil, List.length_append, hlen]; first | done | omega)) ?_)
      | refine And.intro (fun hc => ?_) (fun hc => ?_)
      | refine And.intro ?_ ?_
      | intro b
      | refine stp ?_
      | refine TQ.finC ?_
      | refine ⟨fun hc => ?_, fun hc => ?_⟩
      | refine Ei.f ?_
      | refine ⟨?_, ?_⟩
      | intro b
      | omega
      | (dsimp only; omega)
      | fail)
  all_goals first | exact Fini.mk ⟨rfl, rfl⟩ | (refine absurd ?_ hc; first | exact hn | (rw [hS, hd1]; rfl) | (rw [hS]; dsimp only; rw [hO, hd2]; rfl) | (rw [hS]; done) | (rw [hO]; done) | (rw [hS]; dsimp only; rw [hO]; done) | (rw [hS]; rfl) | (rw [hO]; rfl) | (rw [hS]; dsimp only; rw [hO]; rfl) | omega)
theorem long_tn (n : Int) (m : Nat) (hm : 65536 + n = (m : Int)) (h1 : -128 ≤ n) (h2 : n ≤ 127) (hn : n ≤ 0) :
    Sat Tryd.prog 7 [.int .i8 n, .bool true] [quA] (fun u L' => u = .bool true ∧ L' = [quA]) := by
  have hm2 : 65536 + IntKind.i64.wrap n = (m : Int) := by rw [← hm]; simp [IntKind.wrap, IntKind.signed, IntKind.bits, Int.bmod]; omega
  have hbA : -((IntKind.i64.lim : Nat) : Int) ≤ (m : Int) := by rw [lim64]; omega
  have hbB : (m : Int) < ((IntKind.i64.lim : Nat) : Int) := by rw [lim64]; omega
  have hd1 : decide (0 < n) = false := decide_eq_false (by omega)
  have hd2 : decide (n ≤ 0) = true := decide_eq_true hn
  obtain ⟨aE, hS, hO, hlen⟩ := seal_ok (ad := (List.replicate m (0 : UInt8))) (s := [120]) (by rw [List.length_replicate]; simp only [List.length_cons, List.length_nil]; omega)
  all_goals
    refine Sat.enter Tryd.func7 rfl Tryd.ntmps7 rfl (fun c R => ?_)
    try simp only [List.cons_append, List.nil_append]
    repeat' (first
      | (rw [hm2])
      | refine Vc.mk ⟨hbA, hbB⟩ ?_
      | exact hbA
      | exact hbB
      | (rw [hS]; dsimp only; first | omega | (simp only [List.length_nil]; omega))
      | (refine Vc.mk (by first | (simp only [true_and, and_true, List.length_replicate, List.length_cons, List.length_nil, List.length_append, hlen]; done) | (simp only [true_and, and_true, List.length_replicate, List.length_cons, List.length_nil, List.length_append, hlen]; omega)) ?_)
      | (refine Vc.mk (by rw [hS]; dsimp only; first | omega | (simp only [true_and, and_true, List.length_replicate, List.length_cons, List.length_nil, List.length_append, hlen]; first | done | omega)) ?_)
      | refine And.intro (fun hc => ?_) (fun hc => ?_)
      | refine And.intro ?_ ?_
      | intro b
      | refine stp ?_
      | refine TQ.finC ?_
      | refine ⟨fun hc => ?_, fun hc => ?_⟩
      | refine Ei.f ?_
      | refine ⟨?_, ?_⟩
      | intro b
      | omega
      | (dsimp only; omega)
      | fail)
  all_goals first | exact Fini.mk ⟨rfl, rfl⟩ | (refine absurd ?_ hc; first | exact hn | (rw [hS, hd1]; rfl) | (rw [hS]; dsimp only; rw [hO, hd2]; rfl) | (rw [hS]; done) | (rw [hO]; done) | (rw [hS]; dsimp only; rw [hO]; done) | (rw [hS]; rfl) | (rw [hO]; rfl) | (rw [hS]; dsimp only; rw [hO]; rfl) | omega)
theorem long_fp (n : Int) (m : Nat) (hm : 65536 + n = (m : Int)) (h1 : -128 ≤ n) (h2 : n ≤ 127) (hn : 0 < n) :
    Sat Tryd.prog 7 [.int .i8 n, .bool false] [quA] (fun u L' => u = .bool true ∧ L' = [quA]) := by
  have hm2 : 65536 + IntKind.i64.wrap n = (m : Int) := by rw [← hm]; simp [IntKind.wrap, IntKind.signed, IntKind.bits, Int.bmod]; omega
  have hbA : -((IntKind.i64.lim : Nat) : Int) ≤ (m : Int) := by rw [lim64]; omega
  have hbB : (m : Int) < ((IntKind.i64.lim : Nat) : Int) := by rw [lim64]; omega
  have hd1 : decide (0 < n) = true := decide_eq_true hn
  have hd2 : decide (n ≤ 0) = false := decide_eq_false (by omega)
  have hlen : ((List.replicate m (0 : UInt8))).length = m := List.length_replicate
  have hS : SealE k0 n0 [] (List.replicate m (0 : UInt8)) = ([], 4) := seal_long (by rw [hlen]; simp only [List.length_nil]; omega)
  have hO : OpenE k0 n0 [] ((List.replicate m (0 : UInt8)) ++ List.replicate 16 0) = ([], 4) := open_long' (by rw [List.length_append, hlen, List.length_replicate]; simp only [List.length_nil]; omega)
  all_goals
    refine Sat.enter Tryd.func7 rfl Tryd.ntmps7 rfl (fun c R => ?_)
    try simp only [List.cons_append, List.nil_append]
    repeat' (first
      | (rw [hm2])
      | refine Vc.mk ⟨hbA, hbB⟩ ?_
      | exact hbA
      | exact hbB
      | (rw [hS]; dsimp only; first | omega | (simp only [List.length_nil]; omega))
      | (refine Vc.mk (by first | (simp only [true_and, and_true, List.length_replicate, List.length_cons, List.length_nil, List.length_append, hlen]; done) | (simp only [true_and, and_true, List.length_replicate, List.length_cons, List.length_nil, List.length_append, hlen]; omega)) ?_)
      | (refine Vc.mk (by rw [hS]; dsimp only; first | omega | (simp only [true_and, and_true, List.length_replicate, List.length_cons, List.length_nil, List.length_append, hlen]; first | done | omega)) ?_)
      | refine And.intro (fun hc => ?_) (fun hc => ?_)
      | refine And.intro ?_ ?_
      | intro b
      | refine stp ?_
      | refine TQ.finC ?_
      | refine ⟨fun hc => ?_, fun hc => ?_⟩
      | refine Ei.f ?_
      | refine ⟨?_, ?_⟩
      | intro b
      | omega
      | (dsimp only; omega)
      | fail)
  all_goals first | exact Fini.mk ⟨rfl, rfl⟩ | (refine absurd ?_ hc; first | exact hn | (rw [hS, hd1]; rfl) | (rw [hS]; dsimp only; rw [hO, hd2]; rfl) | (rw [hS]; done) | (rw [hO]; done) | (rw [hS]; dsimp only; rw [hO]; done) | (rw [hS]; rfl) | (rw [hO]; rfl) | (rw [hS]; dsimp only; rw [hO]; rfl) | omega)
theorem long_fn (n : Int) (m : Nat) (hm : 65536 + n = (m : Int)) (h1 : -128 ≤ n) (h2 : n ≤ 127) (hn : n ≤ 0) :
    Sat Tryd.prog 7 [.int .i8 n, .bool false] [quA] (fun u L' => u = .bool true ∧ L' = [quA]) := by
  have hm2 : 65536 + IntKind.i64.wrap n = (m : Int) := by rw [← hm]; simp [IntKind.wrap, IntKind.signed, IntKind.bits, Int.bmod]; omega
  have hbA : -((IntKind.i64.lim : Nat) : Int) ≤ (m : Int) := by rw [lim64]; omega
  have hbB : (m : Int) < ((IntKind.i64.lim : Nat) : Int) := by rw [lim64]; omega
  have hd1 : decide (0 < n) = false := decide_eq_false (by omega)
  have hd2 : decide (n ≤ 0) = true := decide_eq_true hn
  obtain ⟨aE, hS, hO, hlen⟩ := seal_ok (ad := []) (s := (List.replicate m (0 : UInt8))) (by rw [List.length_replicate]; simp only [List.length_nil]; omega)
  all_goals
    refine Sat.enter Tryd.func7 rfl Tryd.ntmps7 rfl (fun c R => ?_)
    try simp only [List.cons_append, List.nil_append]
    repeat' (first
      | (rw [hm2])
      | refine Vc.mk ⟨hbA, hbB⟩ ?_
      | exact hbA
      | exact hbB
      | (rw [hS]; dsimp only; first | omega | (simp only [List.length_nil]; omega))
      | (refine Vc.mk (by first | (simp only [true_and, and_true, List.length_replicate, List.length_cons, List.length_nil, List.length_append, hlen]; done) | (simp only [true_and, and_true, List.length_replicate, List.length_cons, List.length_nil, List.length_append, hlen]; omega)) ?_)
      | (refine Vc.mk (by rw [hS]; dsimp only; first | omega | (simp only [true_and, and_true, List.length_replicate, List.length_cons, List.length_nil, List.length_append, hlen]; first | done | omega)) ?_)
      | refine And.intro (fun hc => ?_) (fun hc => ?_)
      | refine And.intro ?_ ?_
      | intro b
      | refine stp ?_
      | refine TQ.finC ?_
      | refine ⟨fun hc => ?_, fun hc => ?_⟩
      | refine Ei.f ?_
      | refine ⟨?_, ?_⟩
      | intro b
      | omega
      | (dsimp only; omega)
      | fail)
  all_goals first | exact Fini.mk ⟨rfl, rfl⟩ | (refine absurd ?_ hc; first | exact hn | (rw [hS, hd1]; rfl) | (rw [hS]; dsimp only; rw [hO, hd2]; rfl) | (rw [hS]; done) | (rw [hO]; done) | (rw [hS]; dsimp only; rw [hO]; done) | (rw [hS]; rfl) | (rw [hO]; rfl) | (rw [hS]; dsimp only; rw [hO]; rfl) | omega)
theorem long_spec (n : Int) (b : Bool) (h1 : -128 ≤ n) (h2 : n ≤ 127) : Sat Tryd.prog 7 [.int .i8 n, .bool b] [quA] (fun u L' => u = .bool true ∧ L' = [quA]) := by
  obtain ⟨m, hm⟩ : ∃ m : Nat, 65536 + n = (m : Int) := ⟨(65536 + n).toNat, by omega⟩
  by_cases hn : 0 < n
  · cases b
    · exact long_fp n m hm h1 h2 hn
    · exact long_tp n m hm h1 h2 hn
  · cases b
    · exact long_fn n m hm h1 h2 (by omega)
    · exact long_tn n m hm h1 h2 (by omega)

end Go.Proofs.YtcidilijlgaohaaDoor
