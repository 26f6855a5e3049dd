/- Lemmas for the proofs of this seat: no statement of the seat is claimed here. -/
import Derived.Test.YtmhkmcoobpfkcaaKe
set_option linter.all false

namespace Go.Proofs.Ytmhkmcoobpfkcaa
open Go Pw
set_option maxRecDepth 20000
set_option maxHeartbeats 4000000
set_option synthInstance.maxHeartbeats 400000
set_option synthInstance.maxSize 4000
set_option maxHeartbeats 4000000

instance {a b c d e h : Nat} {f g : Bool} {s : List UInt8} : InvL pktV [.int .u32 (a : Int), .int .u32 (b : Int), .int .u8 (c : Int), .int .u8 (d : Int), .int .u16 (e : Int), .bool f, .bool g, .int .u16 (h : Int), str s] ⟨a, b, c, d, e, f, g, h, s⟩ := ⟨rfl⟩
instance (priority := 1100) {p : Pkt} : InvL pktV (pktV p) p := ⟨rfl⟩
abbrev zP : Pkt := ⟨0, 0, 0, 0, 0, false, false, 0, []⟩
theorem eqB {a b : Bool} (h : a = b) : Value.bool a = Value.bool b := by rw [h]
def plE (p : Pkt) : Nat := 8 * p.off
def enE (p : Pkt) : Nat := 8 * p.off + p.data.length
def behE (p q : Pkt) : Bool := !p.more && decide (enE p < enE q)
def parE (p q : Pkt) : Bool := (decide (plE p < enE q) && decide (plE q < enE p)) || (!p.more && !q.more) || behE p q || behE q p
def mayE (p : Pkt) : Nat := if p.data = [] ∨ (p.more = true ∧ p.data.length % 8 ≠ 0) then 8 else if 8192 < enE p then 4 else 0
def cmE (p q : Pkt) : Int := if p.off < q.off then -1 else if q.off < p.off then 1 else 0
theorem place50 (p : Pkt) (hp : p.ok) :
    Sat Try.prog 50 [.agg (pktV p).toArray] [] (fun u L' => u = .int .i64 (plE p : Nat) ∧ L' = []) := by
  have hp6 := hp.off
  have hp7 := hp.data
  all_goals
    refine Sat.enter Try.func50 rfl Try.ntmps50 rfl (fun c R => ?_)
    try simp only [List.cons_append, List.nil_append]
    repeat' (first
      | (exact Fini.of ⟨rfl, rfl⟩ (by repeat first | exact Imp.refl _ | (apply Imp.pull; focus ((repeat first | exact Del.head _ _ | apply Del.tail); done)) | apply Imp.drop))
      | refine And.intro (fun hc => ?_) (fun hc => ?_)
      | refine And.intro ?_ ?_
      | intro b
      | refine stp ?_
      | refine TQ.finC ?_
      | refine TQ.finC2 ?_
      | refine TQ.finC3 ?_
      | refine ⟨fun hc => ?_, fun hc => ?_⟩
      | refine Ei.f ?_
      | refine ⟨?_, ?_⟩
      | intro b
      | exact absurd rfl hc
      | exact absurd hc (by decide)
      | exact absurd rfl hc
      | exact absurd hc (by decide)
      | (exact Nat.or_lt_two_pow (n := 64) (Nat.mod_lt _ (by decide)) (Nat.lt_of_lt_of_le (by assumption) (by decide)))
      | exact absurd rfl hc
      | exact absurd hc (by decide)
      | omega
      | (dsimp only; omega)
      | (simp only [IntKind.lim, IntKind.signed, IntKind.bits] at *; omega)
      | fail)
instance {L : List Assn} {p : Pkt} {us : List Value} [hu : InvL pktV us p] : FnR Try.prog 50 [.agg us.toArray] L (fun kk => Vc (p.ok) (kk (.int .i64 (plE p : Nat)) L)) := ⟨fun kk h => ⟨[], L, _, by rw [← hu.h]; exact place50 p h.l, .nil _, fun v L' hq => by rw [hq.1, hq.2]; exact h.r⟩⟩
theorem place35 (p : Pkt) (hp : p.ok) :
    Sat Try.prog 35 [.agg (pktV p).toArray] [] (fun u L' => u = .int .i64 (plE p : Nat) ∧ L' = []) := by
  have hp6 := hp.off
  have hp7 := hp.data
  all_goals
    refine Sat.enter Try.func35 rfl Try.ntmps35 rfl (fun c R => ?_)
    try simp only [List.cons_append, List.nil_append]
    repeat' (first
      | (exact Fini.of ⟨rfl, rfl⟩ (by repeat first | exact Imp.refl _ | (apply Imp.pull; focus ((repeat first | exact Del.head _ _ | apply Del.tail); done)) | apply Imp.drop))
      | refine And.intro (fun hc => ?_) (fun hc => ?_)
      | refine And.intro ?_ ?_
      | intro b
      | refine stp ?_
      | refine TQ.finC ?_
      | refine TQ.finC2 ?_
      | refine TQ.finC3 ?_
      | refine ⟨fun hc => ?_, fun hc => ?_⟩
      | refine Ei.f ?_
      | refine ⟨?_, ?_⟩
      | intro b
      | exact absurd rfl hc
      | exact absurd hc (by decide)
      | exact absurd rfl hc
      | exact absurd hc (by decide)
      | (exact Nat.or_lt_two_pow (n := 64) (Nat.mod_lt _ (by decide)) (Nat.lt_of_lt_of_le (by assumption) (by decide)))
      | exact absurd rfl hc
      | exact absurd hc (by decide)
      | omega
      | (dsimp only; omega)
      | (simp only [IntKind.lim, IntKind.signed, IntKind.bits] at *; omega)
      | fail)
instance {L : List Assn} {p : Pkt} {us : List Value} [hu : InvL pktV us p] : FnR Try.prog 35 [.agg us.toArray] L (fun kk => Vc (p.ok) (kk (.int .i64 (plE p : Nat)) L)) := ⟨fun kk h => ⟨[], L, _, by rw [← hu.h]; exact place35 p h.l, .nil _, fun v L' hq => by rw [hq.1, hq.2]; exact h.r⟩⟩
theorem end42 (p : Pkt) (hp : p.ok) :
    Sat Try.prog 42 [.agg (pktV p).toArray] [] (fun u L' => u = .int .i64 (enE p : Nat) ∧ L' = []) := by
  have hp6 := hp.off
  have hp7 := hp.data
  have hl : plE p ≤ 524280 := by unfold plE; omega
  all_goals
    refine Sat.enter Try.func42 rfl Try.ntmps42 rfl (fun c R => ?_)
    try simp only [List.cons_append, List.nil_append]
    repeat' (first
      | assumption
      | (exact Fini.of ⟨rfl, rfl⟩ (by repeat first | exact Imp.refl _ | (apply Imp.pull; focus ((repeat first | exact Del.head _ _ | apply Del.tail); done)) | apply Imp.drop))
      | refine T.pl 1 [1] (.d 0 (.p 2 (.b2 1 (.d 3 (.p 4 (.p 5 (.p 6 .fin)))) 3 (.p 4 (.n 1 (.p 5 (.p 6 .fin))))))) ?_
      | refine And.intro (fun hc => ?_) (fun hc => ?_)
      | refine And.intro ?_ ?_
      | intro b
      | refine stp ?_
      | refine TQ.finC ?_
      | refine TQ.finC2 ?_
      | refine TQ.finC3 ?_
      | refine ⟨fun hc => ?_, fun hc => ?_⟩
      | refine Ei.f ?_
      | refine ⟨?_, ?_⟩
      | intro b
      | exact absurd rfl hc
      | exact absurd hc (by decide)
      | exact absurd rfl hc
      | exact absurd hc (by decide)
      | (exact Nat.or_lt_two_pow (n := 64) (Nat.mod_lt _ (by decide)) (Nat.lt_of_lt_of_le (by assumption) (by decide)))
      | exact absurd rfl hc
      | exact absurd hc (by decide)
      | omega
      | (dsimp only; omega)
      | (simp only [IntKind.lim, IntKind.signed, IntKind.bits] at *; omega)
      | fail)
instance {L : List Assn} {p : Pkt} {us : List Value} [hu : InvL pktV us p] : FnR Try.prog 42 [.agg us.toArray] L (fun kk => Vc (p.ok) (kk (.int .i64 (enE p : Nat)) L)) := ⟨fun kk h => ⟨[], L, _, by rw [← hu.h]; exact end42 p h.l, .nil _, fun v L' hq => by rw [hq.1, hq.2]; exact h.r⟩⟩
theorem end32 (p : Pkt) (hp : p.ok) :
    Sat Try.prog 32 [.agg (pktV p).toArray] [] (fun u L' => u = .int .i64 (enE p : Nat) ∧ L' = []) := by
  have hp6 := hp.off
  have hp7 := hp.data
  have hl : plE p ≤ 524280 := by unfold plE; omega
  all_goals
    refine Sat.enter Try.func32 rfl Try.ntmps32 rfl (fun c R => ?_)
    try simp only [List.cons_append, List.nil_append]
    repeat' (first
      | assumption
      | (exact Fini.of ⟨rfl, rfl⟩ (by repeat first | exact Imp.refl _ | (apply Imp.pull; focus ((repeat first | exact Del.head _ _ | apply Del.tail); done)) | apply Imp.drop))
      | refine T.pl 1 [1] (.d 0 (.p 2 (.b2 1 (.d 3 (.p 4 (.p 5 (.p 6 .fin)))) 3 (.p 4 (.n 1 (.p 5 (.p 6 .fin))))))) ?_
      | refine And.intro (fun hc => ?_) (fun hc => ?_)
      | refine And.intro ?_ ?_
      | intro b
      | refine stp ?_
      | refine TQ.finC ?_
      | refine TQ.finC2 ?_
      | refine TQ.finC3 ?_
      | refine ⟨fun hc => ?_, fun hc => ?_⟩
      | refine Ei.f ?_
      | refine ⟨?_, ?_⟩
      | intro b
      | exact absurd rfl hc
      | exact absurd hc (by decide)
      | exact absurd rfl hc
      | exact absurd hc (by decide)
      | (exact Nat.or_lt_two_pow (n := 64) (Nat.mod_lt _ (by decide)) (Nat.lt_of_lt_of_le (by assumption) (by decide)))
      | exact absurd rfl hc
      | exact absurd hc (by decide)
      | omega
      | (dsimp only; omega)
      | (simp only [IntKind.lim, IntKind.signed, IntKind.bits] at *; omega)
      | fail)
instance {L : List Assn} {p : Pkt} {us : List Value} [hu : InvL pktV us p] : FnR Try.prog 32 [.agg us.toArray] L (fun kk => Vc (p.ok) (kk (.int .i64 (enE p : Nat)) L)) := ⟨fun kk h => ⟨[], L, _, by rw [← hu.h]; exact end32 p h.l, .nil _, fun v L' hq => by rw [hq.1, hq.2]; exact h.r⟩⟩

theorem may8 {p : Pkt} (h : p.data = [] ∨ (p.more = true ∧ p.data.length % 8 ≠ 0)) : mayE p = 8 := if_pos h
theorem may4 {p : Pkt} (h : ¬ (p.data = [] ∨ (p.more = true ∧ p.data.length % 8 ≠ 0))) (h2 : 8192 < enE p) : mayE p = 4 := by unfold mayE; rw [if_neg h, if_pos h2]
theorem may0 {p : Pkt} (h : ¬ (p.data = [] ∨ (p.more = true ∧ p.data.length % 8 ≠ 0))) (h2 : ¬ 8192 < enE p) : mayE p = 0 := by unfold mayE; rw [if_neg h, if_neg h2]
theorem pd1 {a b c d : Bool} {x : Bool} (h : a = true) (h2 : b = true) : true = ((a && b) || x || c || d) := by rw [h, h2]; simp
theorem may27 (p : Pkt) (hp : p.ok) :
    Sat Try.prog 27 [.agg (pktV p).toArray] [] (fun u L' => u = .int .i64 (mayE p : Nat) ∧ L' = []) := by
  have hp6 := hp.off
  have hp7 := hp.data
  have hl : enE p ≤ 4295491576 := by unfold enE; omega
  all_goals
    refine Sat.enter Try.func27 rfl Try.ntmps27 rfl (fun c R => ?_)
    try simp only [List.cons_append, List.nil_append]
    repeat' (first
      | exact absurd (by assumption) (by assumption)
      | (exact Fini.of ⟨by rw [may8 (.inl (by assumption))]; rfl, rfl⟩ (by repeat first | exact Imp.refl _ | (apply Imp.pull; focus ((repeat first | exact Del.head _ _ | apply Del.tail); done)) | apply Imp.drop))
      | (exact Fini.of ⟨by rw [may8 (.inr ⟨by assumption, by assumption⟩)]; rfl, rfl⟩ (by repeat first | exact Imp.refl _ | (apply Imp.pull; focus ((repeat first | exact Del.head _ _ | apply Del.tail); done)) | apply Imp.drop))
      | (exact Fini.of ⟨by rw [may4 (by rintro (h | ⟨h, h2⟩) <;> simp_all) (by assumption)]; rfl, rfl⟩ (by repeat first | exact Imp.refl _ | (apply Imp.pull; focus ((repeat first | exact Del.head _ _ | apply Del.tail); done)) | apply Imp.drop))
      | (exact Fini.of ⟨by rw [may0 (by rintro (h | ⟨h, h2⟩) <;> simp_all) (by assumption)]; rfl, rfl⟩ (by repeat first | exact Imp.refl _ | (apply Imp.pull; focus ((repeat first | exact Del.head _ _ | apply Del.tail); done)) | apply Imp.drop))
      | refine And.intro (fun hc => ?_) (fun hc => ?_)
      | refine And.intro ?_ ?_
      | intro b
      | refine stp ?_
      | refine TQ.finC ?_
      | refine TQ.finC2 ?_
      | refine TQ.finC3 ?_
      | refine ⟨fun hc => ?_, fun hc => ?_⟩
      | refine Ei.f ?_
      | refine ⟨?_, ?_⟩
      | intro b
      | exact absurd rfl hc
      | exact absurd hc (by decide)
      | exact absurd rfl hc
      | exact absurd hc (by decide)
      | (exact Nat.or_lt_two_pow (n := 64) (Nat.mod_lt _ (by decide)) (Nat.lt_of_lt_of_le (by assumption) (by decide)))
      | exact absurd rfl hc
      | exact absurd hc (by decide)
      | omega
      | (dsimp only; omega)
      | (simp only [IntKind.lim, IntKind.signed, IntKind.bits] at *; omega)
      | fail)
instance {L : List Assn} {p : Pkt} {us : List Value} [hu : InvL pktV us p] : FnR Try.prog 27 [.agg us.toArray] L (fun kk => Vc (p.ok) (kk (.int .i64 (mayE p : Nat)) L)) := ⟨fun kk h => ⟨[], L, _, by rw [← hu.h]; exact may27 p h.l, .nil _, fun v L' hq => by rw [hq.1, hq.2]; exact h.r⟩⟩
theorem beh56 (p q : Pkt) (hp : p.ok) (hq : q.ok) :
    Sat Try.prog 56 [.agg (pktV p).toArray, .agg (pktV q).toArray] [] (fun u L' => u = .bool (behE p q) ∧ L' = []) := by
  have hp6 := hp.off
  have hp7 := hp.data
  have hq6 := hq.off
  have hq7 := hq.data
  have hl : plE p ≤ 524280 := by unfold plE; omega
  have hl2 : plE q ≤ 524280 := by unfold plE; omega
  have hl3 : enE p ≤ 4295491576 := by unfold enE; omega
  have hl4 : enE q ≤ 4295491576 := by unfold enE; omega
  all_goals
    refine Sat.enter Try.func56 rfl Try.ntmps56 rfl (fun c R => ?_)
    try simp only [List.cons_append, List.nil_append]
    repeat' (first
      | (exact Fini.of ⟨eqB (by unfold behE; simp_all), rfl⟩ (by repeat first | exact Imp.refl _ | (apply Imp.pull; focus ((repeat first | exact Del.head _ _ | apply Del.tail); done)) | apply Imp.drop))
      | refine T.pl 1 [5, 7] (.d 0 (.d 1 (.p 2 (.p 3 (.d 4 (.b2 5 (.d 6 (.n 7 (.p 8 (.p 9 (.p 10 .fin))))) 6 (.n 5 (.n 7 (.p 8 (.p 9 (.p 10 .fin))))))))))) ?_
      | refine And.intro (fun hc => ?_) (fun hc => ?_)
      | refine And.intro ?_ ?_
      | intro b
      | refine stp ?_
      | refine TQ.finC ?_
      | refine TQ.finC2 ?_
      | refine TQ.finC3 ?_
      | refine ⟨fun hc => ?_, fun hc => ?_⟩
      | refine Ei.f ?_
      | refine ⟨?_, ?_⟩
      | intro b
      | exact absurd rfl hc
      | exact absurd hc (by decide)
      | exact absurd rfl hc
      | exact absurd hc (by decide)
      | (exact Nat.or_lt_two_pow (n := 64) (Nat.mod_lt _ (by decide)) (Nat.lt_of_lt_of_le (by assumption) (by decide)))
      | exact absurd rfl hc
      | exact absurd hc (by decide)
      | omega
      | (dsimp only; omega)
      | (simp only [IntKind.lim, IntKind.signed, IntKind.bits] at *; omega)
      | fail)
instance {L : List Assn} {p q : Pkt} {us vs : List Value} [hu : InvL pktV us p] [hv : InvL pktV vs q] : FnR Try.prog 56 [.agg us.toArray, .agg vs.toArray] L (fun kk => Vc (p.ok ∧ q.ok) (kk (.bool (behE p q)) L)) := ⟨fun kk h => ⟨[], L, _, by rw [← hu.h, ← hv.h]; exact beh56 p q h.l.1 h.l.2, .nil _, fun v L' hq => by rw [hq.1, hq.2]; exact h.r⟩⟩
theorem par46 (p q : Pkt) (hp : p.ok) (hq : q.ok) :
    Sat Try.prog 46 [.agg (pktV p).toArray, .agg (pktV q).toArray] [] (fun u L' => u = .bool (parE p q) ∧ L' = []) := by
  have hp6 := hp.off
  have hp7 := hp.data
  have hq6 := hq.off
  have hq7 := hq.data
  have hl : plE p ≤ 524280 := by unfold plE; omega
  have hl2 : plE q ≤ 524280 := by unfold plE; omega
  have hl3 : enE p ≤ 4295491576 := by unfold enE; omega
  have hl4 : enE q ≤ 4295491576 := by unfold enE; omega
  all_goals
    refine Sat.enter Try.func46 rfl Try.ntmps46 rfl (fun c R => ?_)
    try simp only [List.cons_append, List.nil_append]
    repeat' (first
      | (exact Fini.of ⟨eqB (by unfold parE; simp_all <;> (intros; omega)), rfl⟩ (by repeat first | exact Imp.refl _ | (apply Imp.pull; focus ((repeat first | exact Del.head _ _ | apply Del.tail); done)) | apply Imp.drop))
      | refine T.pl 1 [1, 3, 7, 9] (.d 0 (.b2 1 (.d 2 (.n 3 (.p 4 (.p 5 (.d 6 (.b2 7 (.d 8 (.n 9 (.p 10 (.p 11 .fin)))) 8 (.n 7 (.n 9 (.p 10 (.p 11 .fin)))))))))) 2 (.n 1 (.n 3 (.p 4 (.p 5 (.d 6 (.b2 7 (.d 8 (.n 9 (.p 10 (.p 11 .fin)))) 8 (.n 7 (.n 9 (.p 10 (.p 11 .fin)))))))))))) ?_
      | refine And.intro (fun hc => ?_) (fun hc => ?_)
      | refine And.intro ?_ ?_
      | intro b
      | refine stp ?_
      | refine TQ.finC ?_
      | refine TQ.finC2 ?_
      | refine TQ.finC3 ?_
      | refine ⟨fun hc => ?_, fun hc => ?_⟩
      | refine Ei.f ?_
      | refine ⟨?_, ?_⟩
      | intro b
      | exact absurd rfl hc
      | exact absurd hc (by decide)
      | exact absurd rfl hc
      | exact absurd hc (by decide)
      | (exact Nat.or_lt_two_pow (n := 64) (Nat.mod_lt _ (by decide)) (Nat.lt_of_lt_of_le (by assumption) (by decide)))
      | exact absurd rfl hc
      | exact absurd hc (by decide)
      | omega
      | (dsimp only; omega)
      | (simp only [IntKind.lim, IntKind.signed, IntKind.bits] at *; omega)
      | fail)
instance {L : List Assn} {p q : Pkt} {us vs : List Value} [hu : InvL pktV us p] [hv : InvL pktV vs q] : FnR Try.prog 46 [.agg us.toArray, .agg vs.toArray] L (fun kk => Vc (p.ok ∧ q.ok) (kk (.bool (parE p q)) L)) := ⟨fun kk h => ⟨[], L, _, by rw [← hu.h, ← hv.h]; exact par46 p q h.l.1 h.l.2, .nil _, fun v L' hq => by rw [hq.1, hq.2]; exact h.r⟩⟩

end Go.Proofs.Ytmhkmcoobpfkcaa

