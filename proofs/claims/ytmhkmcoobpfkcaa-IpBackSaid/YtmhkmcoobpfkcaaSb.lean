/- Lemmas for the proofs of this seat: no statement of the seat is claimed here. -/
import Derived.Test.YtmhkmcoobpfkcaaKo
import Derived.Test.YtmhkmcoobpfkcaaKm
set_option linter.all false

namespace Go.Proofs.Ytmhkmcoobpfkcaa
open Go Pw
set_option maxRecDepth 20000
set_option maxHeartbeats 4000000
set_option synthInstance.maxHeartbeats 400000
set_option synthInstance.maxSize 4000
set_option maxHeartbeats 8000000

def icmpE (p : Pkt) (id kind code : Nat) (rest : List UInt8) : Pkt := ⟨p.dst, p.src, 1, 64, id, false, false, 0, [UInt8.ofNat kind, UInt8.ofNat code] ++ numE (sumE ([UInt8.ofNat kind, UInt8.ofNat code] ++ rest)) 2 ++ rest⟩
def echoC (p : Pkt) : Prop := p.more = false ∧ p.off = 0 ∧ p.proto = 1 ∧ 8 ≤ p.data.length ∧ p.data.take 2 = [8, 0] ∧ sumE p.data = 0
instance (p : Pkt) : Decidable (echoC p) := by unfold echoC; infer_instance
def echoE (p : Pkt) : Pkt × Bool := if echoC p then (icmpE p p.id 0 0 (p.data.drop 4), true) else (zP, false)
theorem echo_no {p : Pkt} (h : ¬ echoC p) : echoE p = (zP, false) := if_neg h
theorem echo_yes {p : Pkt} (h : echoC p) : echoE p = (icmpE p p.id 0 0 (p.data.drop 4), true) := if_pos h
def cutE (p : Pkt) : Pkt := { p with data := p.data.take (min p.data.length 8) }
def awayE (p : Pkt) (code : Nat) : Pkt × Bool := if p.off ≠ 0 ∨ (p.proto = 1 ∧ ([8] : List UInt8).isPrefixOf p.data = false) then (zP, false) else (icmpE p 0 3 code ([0, 0, 0, 0] ++ (encE (cutE p)).1), true)
theorem away_no {p : Pkt} {code : Nat} (h : p.off ≠ 0 ∨ (p.proto = 1 ∧ ([8] : List UInt8).isPrefixOf p.data = false)) : awayE p code = (zP, false) := if_pos h
theorem away_yes {p : Pkt} {code : Nat} (h : ¬ (p.off ≠ 0 ∨ (p.proto = 1 ∧ ([8] : List UInt8).isPrefixOf p.data = false))) : awayE p code = (icmpE p 0 3 code ([0, 0, 0, 0] ++ (encE (cutE p)).1), true) := if_neg h
theorem take2 {l : List UInt8} (h : 2 ≤ l.length) : l.take 2 = [gt l 0, gt l 1] := by
  match l, h with
  | a :: b :: l, _ => rfl
theorem pre8 (l : List UInt8) : ([8] : List UInt8).isPrefixOf l = (decide (l ≠ []) && decide (gt l 0 = 8)) := by
  cases l with
  | nil => rfl
  | cons a l =>
    simp only [List.isPrefixOf, gt, List.getD_cons_zero, Bool.and_true, ne_eq, reduceCtorEq, not_false_eq_true, decide_true, Bool.true_and]
    by_cases h : a = 8
    · simp [h]
    · have : ¬ 8 = a := fun e => h e.symm
      simp [h, this]
theorem sum_00 (s : List UInt8) : sumE ([0, 0] ++ s) = sumE s := sumE_z (l := []) rfl
theorem icmp_ok {p : Pkt} {id kind code : Nat} {rest : List UInt8} (hp : p.ok) (hi : id < 65536) (hr : rest.length < 100000000) : (icmpE p id kind code rest).ok :=
  ⟨hp.dst, hp.src, by show 1 < 256; decide, by show 64 < 256; decide, hi, by show 0 < 65536; decide, by show ([UInt8.ofNat kind, UInt8.ofNat code] ++ numE _ 2 ++ rest).length < _; simp only [List.length_append, List.length_cons, List.length_nil, numE_len]; omega⟩
theorem prefix41 (s p : List UInt8) : Sat Try.prog 41 [str s, str p] [] (fun u L' => u = .bool (p.isPrefixOf s) ∧ L' = []) :=
  Sat.of_same fun w => (Try.strings_HasPrefix ⟨s.toArray⟩ ⟨p.toArray⟩ w).mono fun e w' ⟨he, hw⟩ => ⟨by rw [he]; simp [Lib.hasPrefix], hw⟩
instance {L : List Assn} {s p : List UInt8} : FnR Try.prog 41 [str s, str p] L (fun kk => kk (.bool (p.isPrefixOf s)) L) := ⟨fun kk h => ⟨[], L, _, prefix41 s p, .nil _, fun v L' hv => by rw [hv.1, hv.2]; exact h⟩⟩
theorem eqAgg {p q : Pkt} (h : p = q) : Value.agg (pktV p).toArray = Value.agg (pktV q).toArray := by rw [h]
attribute [local irreducible] numE sumE valE
theorem icmp40 (p : Pkt) (id kind code : Nat) (rest : List UInt8) (hp : p.ok) (hi : id < 65536) (hk : kind < 256) (hc0 : code < 256) (hr : rest.length < 100000000) :
    Sat Try.prog 40 [.agg (pktV p).toArray, .int .u16 id, .int .u8 kind, .int .u8 code, str rest] [] (fun u L' => u = .agg (pktV (icmpE p id kind code rest)).toArray ∧ L' = []) := by
  have hp5 := hp.id
  have hp6 := hp.off
  have hp7 := hp.data
  have hs := sumE_lt ([UInt8.ofNat kind, UInt8.ofNat code] ++ rest)
  all_goals
    refine Sat.enter Try.func40 rfl Try.ntmps40 rfl (fun c R => ?_)
    try simp only [List.cons_append, List.nil_append]
    repeat' (first
      | (exact Fini.of ⟨rfl, rfl⟩ (by repeat first | exact Imp.refl _ | (apply Imp.pull; focus ((repeat first | exact Del.head _ _ | apply Del.tail); done)) | apply Imp.drop))
      | refine T.pl 2 [9, 11, 16] (.p 4 (.p 5 (.p 6 (.p 7 (.p 8 (.p 13 (.p 0 (.p 2 (.b3 1 (.b2 3 (.n 9 (.p 10 (.n 11 (.p 12 (.p 14 (.p 15 (.n 16 .fin))))))) 9 (.p 10 (.b2 3 (.n 11 (.p 12 (.p 14 (.p 15 (.n 16 .fin))))) 11 (.p 12 (.p 14 (.d 3 (.p 15 (.n 16 .fin)))))))) 3 (.b2 1 (.n 9 (.p 10 (.n 11 (.p 12 (.p 14 (.p 15 (.n 16 .fin))))))) 9 (.p 10 (.b2 1 (.n 11 (.p 12 (.p 14 (.p 15 (.n 16 .fin))))) 11 (.p 12 (.p 14 (.d 1 (.p 15 (.n 16 .fin)))))))) 9 (.p 10 (.b3 1 (.b2 3 (.n 11 (.p 12 (.p 14 (.p 15 (.n 16 .fin))))) 11 (.p 12 (.p 14 (.d 3 (.p 15 (.n 16 .fin)))))) 3 (.b2 1 (.n 11 (.p 12 (.p 14 (.p 15 (.n 16 .fin))))) 11 (.p 12 (.p 14 (.d 1 (.p 15 (.n 16 .fin)))))) 11 (.p 12 (.p 14 (.d 1 (.d 3 (.p 15 (.n 16 .fin))))))))))))))))) ?_
      | refine And.intro (fun hc => ?_) (fun hc => ?_)
      | refine And.intro ?_ ?_
      | intro b
      | refine stp ?_
      | refine TQ.finC ?_
      | refine TQ.finC2 ?_
      | refine TQ.finC3 ?_
      | refine ⟨fun hc => ?_, fun hc => ?_⟩
      | refine Ei.f ?_
      | refine ⟨?_, ?_⟩
      | intro b
      | exact absurd rfl hc
      | exact absurd hc (by decide)
      | exact absurd rfl hc
      | exact absurd hc (by decide)
      | omega
      | (dsimp only; omega)
      | (simp only [List.length_append, List.length_cons, List.length_nil, List.length_drop, List.length_take, numE_len]; omega)
      | fail)
instance {L : List Assn} {p : Pkt} {us : List Value} {x y z : Int} {id kind code : Nat} {rest : List UInt8} [hu : InvL pktV us p] [hx : Nn x id] [hy : Nn y kind] [hz : Nn z code] : FnR Try.prog 40 [.agg us.toArray, .int .u16 x, .int .u8 y, .int .u8 z, str rest] L (fun kk => Vc (p.ok ∧ id < 65536 ∧ kind < 256 ∧ code < 256 ∧ rest.length < 100000000) (kk (.agg (pktV (icmpE p id kind code rest)).toArray) L)) := ⟨fun kk h => ⟨[], L, _, by rw [← hu.h, hx.h, hy.h, hz.h]; exact icmp40 p id kind code rest h.l.1 h.l.2.1 h.l.2.2.1 h.l.2.2.2.1 h.l.2.2.2.2, .nil _, fun v L' hq => by rw [hq.1, hq.2]; exact h.r⟩⟩
theorem echo21 (p : Pkt) (hp : p.ok) (hl : p.data.length < 100000000) :
    Sat Try.prog 21 [.agg (pktV p).toArray] [] (fun u L' => u = asResult [.agg (pktV (echoE p).1).toArray, .bool (echoE p).2] ∧ L' = []) := by
  have hp5 := hp.id
  have hp6 := hp.off
  have hp7 := hp.data
  all_goals
    refine Sat.enter Try.func21 rfl Try.ntmps21 rfl (fun c R => ?_)
    try simp only [List.cons_append, List.nil_append]
    repeat' (first
      | exact ⟨hp, hp5, by decide, by decide, by rw [List.length_drop]; omega⟩
      | (rw [echo_yes ⟨by assumption, by omega, by omega, by omega, Decidable.not_not.1 (by assumption), by omega⟩]; exact Fini.of ⟨rfl, rfl⟩ (by repeat first | exact Imp.refl _ | (apply Imp.pull; focus ((repeat first | exact Del.head _ _ | apply Del.tail); done)) | apply Imp.drop))
      | (rw [echo_no (by rintro ⟨h1, h2, h3, h4, h5, h6⟩; first | omega | exact absurd h5 (by assumption) | exact absurd (h1.symm.trans ‹p.more = true›) (by decide))]; exact Fini.of ⟨rfl, rfl⟩ (by repeat first | exact Imp.refl _ | (apply Imp.pull; focus ((repeat first | exact Del.head _ _ | apply Del.tail); done)) | apply Imp.drop))
      | refine T.pl 3 [6, 7] (.d 0 (.d 1 (.d 2 (.d 3 (.d 4 (.p 5 (.n 6 (.n 7 (.p 8 .fin))))))))) ?_
      | refine And.intro (fun hc => ?_) (fun hc => ?_)
      | refine And.intro ?_ ?_
      | intro b
      | refine stp ?_
      | refine TQ.finC ?_
      | refine TQ.finC2 ?_
      | refine TQ.finC3 ?_
      | refine ⟨fun hc => ?_, fun hc => ?_⟩
      | refine Ei.f ?_
      | refine ⟨?_, ?_⟩
      | intro b
      | exact absurd rfl hc
      | exact absurd hc (by decide)
      | exact absurd rfl hc
      | exact absurd hc (by decide)
      | omega
      | (dsimp only; omega)
      | (simp only [List.length_append, List.length_cons, List.length_nil, List.length_drop, List.length_take, numE_len]; omega)
      | fail)

end Go.Proofs.Ytmhkmcoobpfkcaa


namespace Go.Proofs.Ytmhkmcoobpfkcaa
open Go Pw
set_option maxRecDepth 20000
set_option maxHeartbeats 4000000
set_option synthInstance.maxHeartbeats 400000
set_option synthInstance.maxSize 4000
set_option maxHeartbeats 8000000

theorem t2_iff {l : List UInt8} (h : 2 ≤ l.length) : l.take 2 = [8, 0] ↔ (gt l 0).toNat = 8 ∧ (gt l 1).toNat = 0 := by
  rw [take2 h]
  simp only [List.cons.injEq, and_true]
  constructor
  · rintro ⟨h1, h2⟩; rw [h1, h2]; exact ⟨rfl, rfl⟩
  · rintro ⟨h1, h2⟩; exact ⟨UInt8.toNat_inj.1 h1, UInt8.toNat_inj.1 h2⟩
theorem icmp_00 (p : Pkt) (id : Nat) (rest : List UInt8) : icmpE p id 0 0 rest = ⟨p.dst, p.src, 1, 64, id, false, false, 0, [0, 0] ++ numE (sumE rest) 2 ++ rest⟩ := by
  unfold icmpE
  rw [show ([UInt8.ofNat 0, UInt8.ofNat 0] : List UInt8) = [0, 0] from rfl, sum_00]
theorem pre_f {l : List UInt8} (h : l = [] ∨ (gt l 0).toNat ≠ 8) : ([8] : List UInt8).isPrefixOf l = false := by
  rw [pre8]
  rcases h with h | h
  · simp [h]
  · have : gt l 0 ≠ 8 := fun e => h (by rw [e]; rfl)
    simp [this]
theorem pre_t {l : List UInt8} (h : l ≠ []) (h2 : (gt l 0).toNat = 8) : ([8] : List UInt8).isPrefixOf l = true := by
  have : gt l 0 = 8 := UInt8.toNat_inj.1 h2
  rw [pre8]; simp [h, this]
theorem cut_ok {p : Pkt} (hp : p.ok) : (cutE p).ok := ⟨hp.src, hp.dst, hp.proto, hp.ttl, hp.id, hp.off, by show (p.data.take _).length < _; rw [List.length_take]; have := hp.data; omega⟩
def awB (p : Pkt) : Bool := decide (p.off ≠ 0 ∨ (p.proto = 1 ∧ ([8] : List UInt8).isPrefixOf p.data = false))
theorem awB_t {p : Pkt} (h : p.off ≠ 0 ∨ (p.proto = 1 ∧ ([8] : List UInt8).isPrefixOf p.data = false)) : true = awB p := (decide_eq_true h).symm
theorem awB_f {p : Pkt} (h : ¬ (p.off ≠ 0 ∨ (p.proto = 1 ∧ ([8] : List UInt8).isPrefixOf p.data = false))) : false = awB p := (decide_eq_false h).symm
theorem awB_x {p : Pkt} {b : Bool} (h0 : ¬ p.off ≠ 0) (h1 : p.proto = 1) (h2 : p.data ≠ []) (hb : b = decide ((gt p.data 0).toNat ≠ 8)) : b = awB p := by
  rw [hb]
  by_cases h : (gt p.data 0).toNat = 8
  · rw [← awB_f (by rintro (h3 | ⟨_, h3⟩); exact h0 h3; rw [pre_t h2 h] at h3; cases h3)]; simp [h]
  · rw [← awB_t (.inr ⟨h1, pre_f (.inr h)⟩)]; simp [h]
theorem aw_t {p : Pkt} {code : Nat} (h : awB p = true) : awayE p code = (zP, false) := away_no (of_decide_eq_true h)
theorem aw_f {p : Pkt} {code : Nat} (h : awB p = false) : awayE p code = (icmpE p 0 3 code ([0, 0, 0, 0] ++ (encE (cutE p)).1), true) := away_yes (of_decide_eq_false h)
attribute [local irreducible] numE sumE valE
theorem echo22 (p : Pkt) (hp : p.ok) (hl : p.data.length < 100000000) :
    Sat Try.prog 22 [.agg (pktV p).toArray] [] (fun u L' => u = asResult [.agg (pktV (echoE p).1).toArray, .bool (echoE p).2] ∧ L' = []) := by
  have hp5 := hp.id
  have hp6 := hp.off
  have hp7 := hp.data
  have hs := sumE_lt (p.data.drop 4)
  all_goals
    refine Sat.enter Try.func22 rfl Try.ntmps22 rfl (fun c R => ?_)
    try simp only [List.cons_append, List.nil_append]
    repeat' (first
      | (rw [echo_yes ⟨by assumption, by omega, by omega, by omega, (t2_iff (by omega)).2 ⟨by omega, by omega⟩, by omega⟩, icmp_00]; exact Fini.of ⟨rfl, rfl⟩ (by repeat first | exact Imp.refl _ | (apply Imp.pull; focus ((repeat first | exact Del.head _ _ | apply Del.tail); done)) | apply Imp.drop))
      | (rw [echo_no (by rintro ⟨h1, h2, h3, h4, h5, h6⟩; first | omega | (have h7 := (t2_iff (by omega)).1 h5; omega) | exact absurd (h1.symm.trans ‹p.more = true›) (by decide))]; exact Fini.of ⟨rfl, rfl⟩ (by repeat first | exact Imp.refl _ | (apply Imp.pull; focus ((repeat first | exact Del.head _ _ | apply Del.tail); done)) | apply Imp.drop))
      | refine T.pl 3 [3, 5] (.d 0 (.d 1 (.p 2 (.p 7 (.b2 3 (.p 4 (.b2 5 (.p 6 (.d 8 (.p 9 (.p 10 (.p 11 .fin))))) 8 (.p 9 (.n 5 (.p 6 (.p 10 (.p 11 .fin))))))) 8 (.p 9 (.n 3 (.p 4 (.n 5 (.p 6 (.p 10 (.p 11 .fin)))))))))))) ?_
      | refine And.intro (fun hc => ?_) (fun hc => ?_)
      | refine And.intro ?_ ?_
      | intro b
      | refine stp ?_
      | refine TQ.finC ?_
      | refine TQ.finC2 ?_
      | refine TQ.finC3 ?_
      | refine ⟨fun hc => ?_, fun hc => ?_⟩
      | refine Ei.f ?_
      | refine ⟨?_, ?_⟩
      | intro b
      | exact absurd rfl hc
      | exact absurd hc (by decide)
      | exact absurd rfl hc
      | exact absurd hc (by decide)
      | exact absurd rfl hc
      | exact absurd hc (by decide)
      | omega
      | (dsimp only; omega)
      | (simp only [List.length_append, List.length_cons, List.length_nil, List.length_drop, List.length_take, numE_len]; omega)
      | fail)
instance {L : List Assn} {p : Pkt} {us : List Value} [hu : InvL pktV us p] : FnR Try.prog 21 [.agg us.toArray] L (fun kk => Vc (p.ok ∧ p.data.length < 100000000) (kk (asResult [.agg (pktV (echoE p).1).toArray, .bool (echoE p).2]) L)) := ⟨fun kk h => ⟨[], L, _, by rw [← hu.h]; exact echo21 p h.l.1 h.l.2, .nil _, fun v L' hq => by rw [hq.1, hq.2]; exact h.r⟩⟩
instance {L : List Assn} {p : Pkt} {us : List Value} [hu : InvL pktV us p] : FnR Try.prog 22 [.agg us.toArray] L (fun kk => Vc (p.ok ∧ p.data.length < 100000000) (kk (asResult [.agg (pktV (echoE p).1).toArray, .bool (echoE p).2]) L)) := ⟨fun kk h => ⟨[], L, _, by rw [← hu.h]; exact echo22 p h.l.1 h.l.2, .nil _, fun v L' hq => by rw [hq.1, hq.2]; exact h.r⟩⟩
theorem away23 (p : Pkt) (code : Nat) (hp : p.ok) (hc0 : code < 256) (hl : p.data.length < 100000000) :
    Sat Try.prog 23 [.agg (pktV p).toArray, .int .u8 code] [] (fun u L' => u = asResult [.agg (pktV (awayE p code).1).toArray, .bool (awayE p code).2] ∧ L' = []) := by
  have hp5 := hp.id
  have hp6 := hp.off
  have hp7 := hp.data
  have hel : (encE ({ src := p.src, dst := p.dst, proto := p.proto, ttl := p.ttl, id := p.id, stay := p.stay, more := p.more, off := p.off, data := List.take (min p.data.length 8) p.data } : Pkt)).1.length ≤ 1500 := enc_len
  all_goals
    refine Sat.enter Try.func23 rfl Try.ntmps23 rfl (fun c R => ?_)
    try simp only [List.cons_append, List.nil_append]
    repeat' (first
      | exact cut_ok hp
      | exact ⟨cut_ok hp, by decide, by decide, hc0, by simp only [List.length_append, List.length_cons, List.length_nil]; omega⟩
      | (rw [away_yes (by rintro (h1 | ⟨h1, h2⟩) <;> first | omega | (rw [pre_t (by assumption) (by omega)] at h2; cases h2) | (have h3 := ‹([8] : List UInt8).isPrefixOf p.data = true›; rw [h2] at h3; cases h3) | (have h3 := ‹(!([8] : List UInt8).isPrefixOf p.data) = false›; rw [h2] at h3; cases h3))]; exact Fini.of ⟨rfl, rfl⟩ (by repeat first | exact Imp.refl _ | (apply Imp.pull; focus ((repeat first | exact Del.head _ _ | apply Del.tail); done)) | apply Imp.drop))
      | (rw [away_no (by first | (left; assumption) | (right; exact ⟨by omega, by assumption⟩) | (right; exact ⟨by omega, by simpa using ‹(!_) = true›⟩) | (right; exact ⟨by omega, pre_f (by first | (left; assumption) | (right; omega))⟩))]; exact Fini.of ⟨rfl, rfl⟩ (by repeat first | exact Imp.refl _ | (apply Imp.pull; focus ((repeat first | exact Del.head _ _ | apply Del.tail); done)) | apply Imp.drop))
      | refine And.intro (fun hc => ?_) (fun hc => ?_)
      | refine And.intro ?_ ?_
      | intro b
      | refine stp ?_
      | refine TQ.finC ?_
      | refine TQ.finC2 ?_
      | refine TQ.finC3 ?_
      | refine ⟨fun hc => ?_, fun hc => ?_⟩
      | refine Ei.f ?_
      | refine ⟨?_, ?_⟩
      | intro b
      | exact absurd rfl hc
      | exact absurd hc (by decide)
      | exact absurd rfl hc
      | exact absurd hc (by decide)
      | exact absurd rfl hc
      | exact absurd hc (by decide)
      | omega
      | (dsimp only; omega)
      | (simp only [List.length_append, List.length_cons, List.length_nil, List.length_drop, List.length_take, numE_len]; omega)
      | fail)
instance {L : List Assn} {p : Pkt} {us : List Value} {x : Int} {code : Nat} [hu : InvL pktV us p] [hx : Nn x code] : FnR Try.prog 23 [.agg us.toArray, .int .u8 x] L (fun kk => Vc (p.ok ∧ code < 256 ∧ p.data.length < 100000000) (kk (asResult [.agg (pktV (awayE p code).1).toArray, .bool (awayE p code).2]) L)) := ⟨fun kk h => ⟨[], L, _, by rw [← hu.h, hx.h]; exact away23 p code h.l.1 h.l.2.1 h.l.2.2, .nil _, fun v L' hq => by rw [hq.1, hq.2]; exact h.r⟩⟩
theorem away24 (p : Pkt) (code : Nat) (hp : p.ok) (hc0 : code < 256) (hl : p.data.length < 100000000) :
    Sat Try.prog 24 [.agg (pktV p).toArray, .int .u8 code] [] (fun u L' => u = asResult [.agg (pktV (awayE p code).1).toArray, .bool (awayE p code).2] ∧ L' = []) := by
  have hp5 := hp.id
  have hp6 := hp.off
  have hp7 := hp.data
  have hel : (encE ({ src := p.src, dst := p.dst, proto := p.proto, ttl := p.ttl, id := p.id, stay := p.stay, more := p.more, off := p.off, data := List.take (min p.data.length 8) p.data } : Pkt)).1.length ≤ 1500 := enc_len
  all_goals
    refine Sat.enter Try.func24 rfl Try.ntmps24 rfl (fun c R => ?_)
    try simp only [List.cons_append, List.nil_append]
    repeat' (first
      | exact cut_ok hp
      | exact ⟨cut_ok hp, by decide, by decide, hc0, by simp only [List.length_append, List.length_cons, List.length_nil]; omega⟩
      | (refine T.atSR 1 ?_; obtain ⟨b4, hb4⟩ : ∃ x, x = b := ⟨_, rfl⟩; subst hb4; obtain ⟨b2, hb2⟩ : ∃ x, x = b := ⟨_, rfl⟩; subst hb2; refine T.cutR 1 (fun _ : Unit => [(1, .int .u8 code), (2, .pointer (some ⟨b2, 0, none⟩)), (4, .pointer (some ⟨b4, 0, none⟩)), (28, .bool (awB p))]) (fun _ => row 38 b2 (pktV p) :: row 38 b4 [.int .u32 0, .int .u32 0, .int .u8 0, .int .u8 0, .int .u16 0, .bool false, .bool false, .int .u16 0, .string { data := #[] }] :: R) (fun _ => True) ?_ (fun _ g _ => ?_))
      | (refine TQ.atC ?_; refine TQ.cn (() : Unit) rfl ⟨rfl, rfl, rfl, eqB (by first | exact awB_t (.inl (by assumption)) | exact awB_t (.inr ⟨by omega, pre_f (.inl (by assumption))⟩) | exact awB_f (by rintro (h1 | ⟨h1, h2⟩); exact absurd h1 (by assumption); omega) | exact awB_x (by assumption) (by omega) (by assumption) (by first | rfl | simp_all)), trivial⟩ trivial (Ent.imp (by repeat first | exact Imp.refl _ | (apply Imp.pull; focus ((repeat first | exact Del.head _ _ | apply Del.tail); done)) | apply Imp.drop)))
      | (rw [away_no (by assumption)]; exact Fini.of ⟨rfl, rfl⟩ (by repeat first | exact Imp.refl _ | (apply Imp.pull; focus ((repeat first | exact Del.head _ _ | apply Del.tail); done)) | apply Imp.drop))
      | (rw [away_yes (by assumption), Nat.mod_eq_of_lt (Nat.lt_trans (sumE_lt _) (by decide))]; exact Fini.of ⟨rfl, rfl⟩ (by repeat first | exact Imp.refl _ | (apply Imp.pull; focus ((repeat first | exact Del.head _ _ | apply Del.tail); done)) | apply Imp.drop))
      | (exact List.length_pos_iff.2 (by assumption))
      | refine T.pk 7 [5, 9, 14] (.p 4 (.p 7 (.p 8 (.p 11 (.p 0 (.g 1 (.p 2 (.g 3 (.b2 5 (.g 6 (.n 9 (.p 10 (.p 12 (.p 13 (.n 14 (.p 15 .fin))))))) 9 (.n 5 (.g 6 (.p 10 (.p 12 (.p 13 (.n 14 (.p 15 .fin)))))))))))))))) ?_
      | refine And.intro (fun hc => ?_) (fun hc => ?_)
      | refine And.intro ?_ ?_
      | intro b
      | refine stk ?_
      | refine stp ?_
      | refine TQ.finC ?_
      | refine TQ.finC2 ?_
      | refine TQ.finC3 ?_
      | refine ⟨fun hc => ?_, fun hc => ?_⟩
      | refine Ei.f ?_
      | refine ⟨?_, ?_⟩
      | intro b
      | exact absurd rfl hc
      | exact absurd hc (by decide)
      | exact absurd rfl hc
      | exact absurd hc (by decide)
      | exact absurd rfl hc
      | exact absurd hc (by decide)
      | omega
      | (dsimp only; omega)
      | (simp only [List.length_append, List.length_cons, List.length_nil, List.length_drop, List.length_take, numE_len]; omega)
      | fail)
instance {L : List Assn} {p : Pkt} {us : List Value} {x : Int} {code : Nat} [hu : InvL pktV us p] [hx : Nn x code] : FnR Try.prog 24 [.agg us.toArray, .int .u8 x] L (fun kk => Vc (p.ok ∧ code < 256 ∧ p.data.length < 100000000) (kk (asResult [.agg (pktV (awayE p code).1).toArray, .bool (awayE p code).2]) L)) := ⟨fun kk h => ⟨[], L, _, by rw [← hu.h, hx.h]; exact away24 p code h.l.1 h.l.2.1 h.l.2.2, .nil _, fun v L' hq => by rw [hq.1, hq.2]; exact h.r⟩⟩

end Go.Proofs.Ytmhkmcoobpfkcaa

