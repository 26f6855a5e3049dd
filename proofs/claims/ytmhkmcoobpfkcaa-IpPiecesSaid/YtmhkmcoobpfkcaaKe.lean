/- Lemmas for the proofs of this seat: no statement of the seat is claimed here. -/
import Derived.Test.YtmhkmcoobpfkcaaKd
set_option linter.all false

namespace Go.Proofs.Ytmhkmcoobpfkcaa
open Go Pw
set_option maxRecDepth 20000
set_option maxHeartbeats 4000000
set_option synthInstance.maxHeartbeats 400000
set_option synthInstance.maxSize 4000
set_option maxHeartbeats 8000000

structure Pkt where
  (src dst proto ttl id : Nat) (stay more : Bool) (off : Nat) (data : List UInt8)
instance : Inhabited Pkt := ⟨⟨0, 0, 0, 0, 0, false, false, 0, []⟩⟩
abbrev pktV (p : Pkt) : List Value := [.int .u32 p.src, .int .u32 p.dst, .int .u8 p.proto, .int .u8 p.ttl, .int .u16 p.id, .bool p.stay, .bool p.more, .int .u16 p.off, str p.data]
instance : FLen pktV 9 := ⟨fun _ => rfl⟩
structure Pkt.ok (p : Pkt) : Prop where
  src : p.src < 4294967296
  dst : p.dst < 4294967296
  proto : p.proto < 256
  ttl : p.ttl < 256
  id : p.id < 65536
  off : p.off < 65536
  data : p.data.length < 4294967296
def m1E (p : Pkt) : Nat := if p.stay then p.off + 16384 else p.off
def m2E (p : Pkt) : Nat := if p.more then m1E p + 8192 else m1E p
theorem or14 {n : Nat} (h : n < 16384) : n ||| 16384 = n + 16384 := by
  have := Nat.two_pow_add_eq_or_of_lt (i := 14) (a := 1) h
  rw [Nat.mul_one] at this
  rw [Nat.or_comm, show 16384 = 2 ^ 14 from rfl, ← this, Nat.add_comm]
theorem or13 {n : Nat} (h : n < 8192) : n ||| 8192 = n + 8192 := by
  have := Nat.two_pow_add_eq_or_of_lt (i := 13) (a := 1) h
  rw [Nat.mul_one] at this
  rw [Nat.or_comm, show 8192 = 2 ^ 13 from rfl, ← this, Nat.add_comm]
theorem or13b {n : Nat} (h : n < 8192) : (n + 16384) ||| 8192 = n + 16384 + 8192 := by
  have e : (n + 16384) ||| 8192 = (n ||| 16384) ||| 8192 := by rw [or14 (by omega)]
  rw [e, Nat.or_assoc, Nat.or_comm 16384 8192, ← Nat.or_assoc, or13 h, or14 (by omega)]
theorem m1_or {p : Pkt} (h : p.off < 8192) : (if p.stay then p.off ||| 16384 else p.off) = m1E p := by
  unfold m1E; split
  · exact or14 (by omega)
  · rfl
theorem m2_or {p : Pkt} (h : p.off < 8192) : (if p.more then m1E p ||| 8192 else m1E p) = m2E p := by
  unfold m2E m1E
  split
  · split
    · exact or13b h
    · exact or13 h
  · rfl
theorem m1_lt {p : Pkt} (h : p.off < 8192) : m1E p < 32768 := by unfold m1E; split <;> omega
theorem m2_lt {p : Pkt} (h : p.off < 8192) : m2E p < 65536 := by have := m1_lt h; unfold m2E; split <;> omega
def frontE (p : Pkt) : List UInt8 := [69, 0] ++ numE (20 + p.data.length) 2 ++ numE p.id 2 ++ numE (m2E p) 2 ++ [UInt8.ofNat p.ttl, UInt8.ofNat p.proto]
def backE (p : Pkt) : List UInt8 := numE (p.src * 2 ^ 32 % 18446744073709551616 ||| p.dst) 8
def encE (p : Pkt) : List UInt8 × Nat := if 8192 ≤ p.off then ([], 2) else if 1500 < 20 + p.data.length then ([], 4) else (frontE p ++ numE (sumE (frontE p ++ backE p)) 2 ++ backE p ++ p.data, 0)
theorem frontE_len (p : Pkt) : (frontE p).length = 10 := by unfold frontE; simp [numE_len]
theorem backE_len (p : Pkt) : (backE p).length = 8 := by unfold backE; simp [numE_len]
theorem eqStr {a b : List UInt8} (h : a = b) : str a = str b := by rw [h]
theorem nm1t {p : Pkt} (h : p.off < 8192) (e : p.stay = true) : Value.int .u64 ((p.off ||| 16384 : Nat) : Int) = Value.int .u64 (m1E p : Int) := by rw [← m1_or h, if_pos e]
theorem nm1f {p : Pkt} (h : p.off < 8192) (e : p.stay = false) : Value.int .u64 (p.off : Int) = Value.int .u64 (m1E p : Int) := by rw [← m1_or h, if_neg (by simp [e])]
theorem nm2t {p : Pkt} (h : p.off < 8192) (e : p.more = true) : Value.int .u64 ((m1E p ||| 8192 : Nat) : Int) = Value.int .u64 (m2E p : Int) := by rw [← m2_or h, if_pos e]
theorem nm2f {p : Pkt} (h : p.off < 8192) (e : p.more = false) : Value.int .u64 (m1E p : Int) = Value.int .u64 (m2E p : Int) := by rw [← m2_or h, if_neg (by simp [e])]
attribute [local irreducible] numE sumE valE m1E m2E
theorem encode_spec (p : Pkt) (hp : p.ok) :
    Sat Try.prog 17 [.agg (pktV p).toArray] [] (fun u L' => u = asResult [str (encE p).1, .int .i64 ((encE p).2 : Nat)] ∧ L' = []) := by
  have h1 := hp.src
  have h2 := hp.dst
  have h3 := hp.proto
  have h4 := hp.ttl
  have h5 := hp.id
  have h6 := hp.off
  have h7 := hp.data
  have h8 := @m2_lt p
  have h12 := @m1_lt p
  have h9 := sumE_lt (frontE p ++ backE p)
  have h10 := frontE_len p
  have h11 := backE_len p
  all_goals
    refine Sat.enter Try.func17 rfl Try.ntmps17 rfl (fun c R => ?_)
    try simp only [List.cons_append, List.nil_append]
    repeat' (first
      | (refine T.cutC (.tmp 21) (fun _ : Unit => [(1, .pointer (some ⟨b, 0, none⟩)), (4, .int .u64 (m1E p : Nat))]) (fun _ => Pw.row 38 b (pktV p) :: R) (fun _ => True) ?_ (fun _ g _ => ?_))
      | (refine T.cutC (.tmp 25) (fun _ : Unit => [(1, .pointer (some ⟨b, 0, none⟩)), (4, .int .u64 (m2E p : Nat))]) (fun _ => Pw.row 38 b (pktV p) :: R) (fun _ => True) ?_ (fun _ g _ => ?_))
      | (refine TQ.atC ?_; refine TQ.cn (() : Unit) rfl ⟨rfl, (by first | exact nm1t (by omega) (by assumption) | exact nm1f (by omega) (by assumption) | exact nm2t (by omega) (by assumption) | exact nm2f (by omega) (by assumption)), trivial⟩ trivial (Ent.imp (by repeat first | exact Imp.refl _ | (apply Imp.pull; focus ((repeat first | exact Del.head _ _ | apply Del.tail); done)) | apply Imp.drop)))
      | (exact Fini.of ⟨by rw [encE, if_pos (by omega)]; rfl, rfl⟩ (by repeat first | exact Imp.refl _ | (apply Imp.pull; focus ((repeat first | exact Del.head _ _ | apply Del.tail); done)) | apply Imp.drop))
      | (exact Fini.of ⟨by rw [encE, if_neg (by omega), if_pos (by omega)]; rfl, rfl⟩ (by repeat first | exact Imp.refl _ | (apply Imp.pull; focus ((repeat first | exact Del.head _ _ | apply Del.tail); done)) | apply Imp.drop))
      | (exact Fini.of ⟨by rw [encE, if_neg (by omega), if_neg (by omega), Nat.mod_eq_of_lt (Nat.lt_trans (sumE_lt _) (by decide))]; rfl, rfl⟩ (by repeat first | exact Imp.refl _ | (apply Imp.pull; focus ((repeat first | exact Del.head _ _ | apply Del.tail); done)) | apply Imp.drop))
      | refine T.pk 10 [5, 10, 13, 19] (.p 12 (.p 0 (.g 1 (.p 2 (.p 3 (.p 4 (.p 7 (.g 8 (.p 9 (.p 15 (.g 16 (.p 17 (.g 18 (.b2 5 (.p 6 (.b2 10 (.p 11 (.b2 13 (.p 14 (.n 19 (.g 20 (.p 21 (.p 22 .fin))))) 19 (.g 20 (.n 13 (.p 14 (.p 21 (.p 22 .fin))))))) 19 (.g 20 (.n 10 (.p 11 (.n 13 (.p 14 (.p 21 (.p 22 .fin))))))))) 19 (.g 20 (.n 5 (.p 6 (.n 10 (.p 11 (.n 13 (.p 14 (.p 21 (.p 22 .fin))))))))))))))))))))))) ?_
      | refine T.pk 12 [4, 6] (.p 0 (.p 1 (.p 2 (.p 3 (.p 8 (.p 10 (.g 11 (.n 4 (.p 5 (.n 6 (.p 7 (.p 9 (.p 12 (.p 13 (.p 14 .fin))))))))))))))) ?_
      | refine And.intro (fun hc => ?_) (fun hc => ?_)
      | refine And.intro ?_ ?_
      | intro b
      | refine stk ?_
      | refine stp ?_
      | refine TQ.finC ?_
      | refine TQ.finC2 ?_
      | refine TQ.finC3 ?_
      | refine ⟨fun hc => ?_, fun hc => ?_⟩
      | refine Ei.f ?_
      | refine ⟨?_, ?_⟩
      | intro b
      | exact absurd rfl hc
      | exact absurd hc (by decide)
      | exact absurd rfl hc
      | exact absurd hc (by decide)
      | omega
      | (dsimp only; omega)
      | (simp only [List.length_append, List.length_cons, List.length_nil, numE_len]; omega)
      | (exact Nat.or_lt_two_pow (n := 64) (Nat.mod_lt _ (by decide)) (Nat.lt_of_lt_of_le (by assumption) (by decide)))
      | fail)

end Go.Proofs.Ytmhkmcoobpfkcaa

