/- Lemmas for the proofs of this seat: no statement of the seat is claimed here. -/
import Derived.Test.YtmhkmcoobpfkcaaSb
import Derived.Test.YtmhkmcoobpfkcaaKo
set_option linter.all false

namespace Go.Proofs.Ytmhkmcoobpfkcaa
open Go Pw
set_option maxRecDepth 20000
set_option maxHeartbeats 4000000
set_option synthInstance.maxHeartbeats 400000
set_option synthInstance.maxSize 4000
set_option maxHeartbeats 8000000

theorem icmp_data (p : Pkt) (id kind code : Nat) (rest : List UInt8) : (icmpE p id kind code rest).data.length = rest.length + 4 ∧ sumE (icmpE p id kind code rest).data = 0 ∧ (icmpE p id kind code rest).data.drop 4 = rest ∧ gt (icmpE p id kind code rest).data 0 = UInt8.ofNat kind ∧ gt (icmpE p id kind code rest).data 1 = UInt8.ofNat code := by
  refine ⟨?_, ?_, ?_, rfl, rfl⟩
  · show ([UInt8.ofNat kind, UInt8.ofNat code] ++ numE _ 2 ++ rest).length = _
    simp only [List.length_append, List.length_cons, List.length_nil, numE_len]; omega
  · show sumE ([UInt8.ofNat kind, UInt8.ofNat code] ++ numE (sumE ([UInt8.ofNat kind, UInt8.ofNat code] ++ rest)) 2 ++ rest) = 0
    exact sum_self (l := [UInt8.ofNat kind, UInt8.ofNat code]) (m := rest) (show ([UInt8.ofNat kind, UInt8.ofNat code] : List UInt8).length % 2 = 0 by simp)
  · show ([UInt8.ofNat kind, UInt8.ofNat code] ++ numE _ 2 ++ rest).drop 4 = rest
    exact List.drop_left' (by simp only [List.length_append, List.length_cons, List.length_nil, numE_len])
structure EchoT (p : Pkt) : Prop where
  src : (echoE p).1.src = p.dst
  dst : (echoE p).1.dst = p.src
  sum : sumE (echoE p).1.data = 0
  len : (echoE p).1.data.length = p.data.length
  drp : (echoE p).1.data.drop 4 = p.data.drop 4
  fst : (gt (echoE p).1.data 0).toNat = 0
  lo : 8 ≤ p.data.length
theorem echo_t {p : Pkt} (h : (echoE p).2 = true) : EchoT p := by
  by_cases hc : echoC p
  · have e := echo_yes hc
    have hd := icmp_data p p.id 0 0 (p.data.drop 4)
    have h8 := hc.2.2.2.1
    refine ⟨by rw [e]; rfl, by rw [e]; rfl, by rw [e]; exact hd.2.1, by rw [e]; show (icmpE p p.id 0 0 (p.data.drop 4)).data.length = _; rw [hd.1, List.length_drop]; omega, by rw [e]; exact hd.2.2.1, by rw [e]; show (gt (icmpE p p.id 0 0 (p.data.drop 4)).data 0).toNat = 0; rw [hd.2.2.2.1]; rfl, h8⟩
  · rw [echo_no hc] at h; cases h
theorem echo_len {p : Pkt} : (echoE p).1.data.length ≤ p.data.length + 4 := by
  by_cases hc : echoC p
  · rw [echo_yes hc]
    show (icmpE p p.id 0 0 (p.data.drop 4)).data.length ≤ _
    rw [(icmp_data p p.id 0 0 (p.data.drop 4)).1, List.length_drop]; omega
  · rw [echo_no hc]; exact Nat.zero_le _
structure AwayT (p : Pkt) (code : Nat) : Prop where
  src : (awayE p code).1.src = p.dst
  dst : (awayE p code).1.dst = p.src
  sum : sumE (awayE p code).1.data = 0
  fst : (gt (awayE p code).1.data 0).toNat = 3
  snd : (gt (awayE p code).1.data 1).toNat = code
  lo : 4 ≤ (awayE p code).1.data.length
theorem away_t {p : Pkt} {code : Nat} (hc0 : code < 256) (h : (awayE p code).2 = true) : AwayT p code := by
  by_cases hc : p.off ≠ 0 ∨ (p.proto = 1 ∧ ([8] : List UInt8).isPrefixOf p.data = false)
  · rw [away_no hc] at h; cases h
  · have e := away_yes (code := code) hc
    have hd := icmp_data p 0 3 code ([0, 0, 0, 0] ++ (encE (cutE p)).1)
    refine ⟨by rw [e]; rfl, by rw [e]; rfl, by rw [e]; exact hd.2.1, by rw [e]; show (gt (icmpE p 0 3 code ([0, 0, 0, 0] ++ (encE (cutE p)).1)).data 0).toNat = 3; rw [hd.2.2.2.1]; rfl, by rw [e]; show (gt (icmpE p 0 3 code ([0, 0, 0, 0] ++ (encE (cutE p)).1)).data 1).toNat = code; rw [hd.2.2.2.2, toN' hc0], by rw [e]; show 4 ≤ (icmpE p 0 3 code ([0, 0, 0, 0] ++ (encE (cutE p)).1)).data.length; rw [hd.1]; omega⟩
theorem away_len {p : Pkt} {code : Nat} : (awayE p code).1.data.length ≤ 1508 := by
  by_cases hc : p.off ≠ 0 ∨ (p.proto = 1 ∧ ([8] : List UInt8).isPrefixOf p.data = false)
  · rw [away_no hc]; exact Nat.zero_le _
  · rw [away_yes hc]
    show (icmpE p 0 3 code ([0, 0, 0, 0] ++ (encE (cutE p)).1)).data.length ≤ _
    have := enc_len (p := cutE p)
    rw [(icmp_data p 0 3 code _).1, List.length_append]
    show 4 + _ + 4 ≤ _
    omega
attribute [local irreducible] numE sumE valE echoE awayE encE decE
theorem codes_spec (p : Pkt) (s : List UInt8) (code : Nat) (hp : p.okw) (hs : s.length ≤ 140737488351232) (hc0 : code < 256) :
    Sat Try.prog 8 [.agg (pktV p).toArray, str s, .int .u8 code] [] (fun u L' => u = .bool true ∧ L' = []) := by
  have hd := hp.data
  have hok := fun h : p.data.length ≤ 8192 => hp.ok (Nat.lt_of_le_of_lt h (by decide))
  have hel := enc_len (p := p)
  have hcl := echo_len (p := p)
  have hal := away_len (p := p) (code := code)
  all_goals
    refine Sat.enter Try.func8 rfl Try.ntmps8 rfl (fun c R => ?_)
    try simp only [List.cons_append, List.nil_append]
    repeat' (first
      | exact hok (by omega)
      | exact ⟨hok (by omega), by omega⟩
      | exact ⟨hok (by omega), by omega, by omega⟩
      | (exact Fini.of ⟨rfl, rfl⟩ (by repeat first | exact Imp.refl _ | (apply Imp.pull; focus ((repeat first | exact Del.head _ _ | apply Del.tail); done)) | apply Imp.drop))
      | refine And.intro (fun hc => ?_) (fun hc => ?_)
      | refine And.intro ?_ ?_
      | intro b
      | refine stp ?_
      | refine TQ.finC ?_
      | refine TQ.finC2 ?_
      | refine TQ.finC3 ?_
      | refine ⟨fun hc => ?_, fun hc => ?_⟩
      | refine Ei.f ?_
      | refine ⟨?_, ?_⟩
      | intro b
      | exact absurd rfl hc
      | exact absurd hc (by decide)
      | exact absurd rfl hc
      | exact absurd hc (by decide)
      | omega
      | (dsimp only; omega)
      | (simp only [List.length_append]; omega)
      | fail)
theorem back_spec (p : Pkt) (s : List UInt8) (code : Nat) (hp : p.okw) (hs : s.length ≤ 140737488351232) (hc0 : code < 256) :
    Sat Try.prog 9 [.agg (pktV p).toArray, str s, .int .u8 code] [] (fun u L' => u = .bool true ∧ L' = []) := by
  have hd := hp.data
  have hok := fun h : p.data.length ≤ 8192 => hp.ok (Nat.lt_of_le_of_lt h (by decide))
  have hel := enc_len (p := p)
  have hcl := echo_len (p := p)
  have hal := away_len (p := p) (code := code)
  all_goals
    refine Sat.enter Try.func9 rfl Try.ntmps9 rfl (fun c R => ?_)
    try simp only [List.cons_append, List.nil_append]
    repeat' (first
      | (rw [dec_enc (hok (by omega)) (by assumption) s]; dsimp only)
      | exact hok (by omega)
      | exact ⟨hok (by omega), by omega⟩
      | exact ⟨hok (by omega), by omega, by omega⟩
      | (exact Fini.of ⟨rfl, rfl⟩ (by repeat first | exact Imp.refl _ | (apply Imp.pull; focus ((repeat first | exact Del.head _ _ | apply Del.tail); done)) | apply Imp.drop))
      | exact absurd (echo_t (by assumption)).src (by assumption)
      | exact absurd (echo_t (by assumption)).dst (by assumption)
      | exact absurd (echo_t (by assumption)).sum (by assumption)
      | exact absurd (echo_t (by assumption)).len (by assumption)
      | exact absurd (echo_t (by assumption)).drp (by assumption)
      | exact absurd (echo_t (by assumption)).fst (by assumption)
      | exact absurd (away_t hc0 (by assumption)).src (by assumption)
      | exact absurd (away_t hc0 (by assumption)).dst (by assumption)
      | exact absurd (away_t hc0 (by assumption)).sum (by assumption)
      | exact absurd (away_t hc0 (by assumption)).fst (by assumption)
      | exact absurd (away_t hc0 (by assumption)).snd (by assumption)
      | exact absurd rfl (by assumption)
      | (have h7 := (echo_t (by assumption)).lo; have h8 := (echo_t (by assumption)).len; omega)
      | (have h7 := (away_t hc0 (by assumption)).lo; omega)
      | refine T.pl 9 [17] (.p 0 (.p 1 (.d 2 (.d 3 (.d 4 (.d 5 (.p 6 (.p 7 (.d 8 (.d 9 (.d 10 (.d 11 (.p 12 (.p 13 (.p 14 (.d 15 (.d 16 (.n 17 (.p 18 (.p 19 (.p 20 (.d 21 (.d 22 (.p 23 (.d 24 (.d 25 (.p 26 (.p 27 (.p 28 (.p 29 (.d 30 (.d 31 (.p 32 (.d 33 (.d 34 (.p 35 (.p 36 (.p 37 (.p 38 (.d 39 (.d 40 (.p 41 (.p 42 (.p 43 (.p 44 .fin))))))))))))))))))))))))))))))))))))))))))))) ?_
      | refine And.intro (fun hc => ?_) (fun hc => ?_)
      | refine And.intro ?_ ?_
      | intro b
      | refine stp ?_
      | refine TQ.finC ?_
      | refine TQ.finC2 ?_
      | refine TQ.finC3 ?_
      | refine ⟨fun hc => ?_, fun hc => ?_⟩
      | refine Ei.f ?_
      | refine ⟨?_, ?_⟩
      | intro b
      | exact absurd rfl hc
      | exact absurd hc (by decide)
      | exact absurd rfl hc
      | exact absurd hc (by decide)
      | omega
      | (dsimp only; omega)
      | (simp only [List.length_append]; omega)
      | fail)

end Go.Proofs.Ytmhkmcoobpfkcaa

