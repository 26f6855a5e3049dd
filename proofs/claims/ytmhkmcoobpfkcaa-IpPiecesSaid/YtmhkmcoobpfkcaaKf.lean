/- Lemmas for the proofs of this seat: no statement of the seat is claimed here. -/
import Derived.Test.YtmhkmcoobpfkcaaKd
import Derived.Test.YtmhkmcoobpfkcaaKe
set_option linter.all false

namespace Go.Proofs.Ytmhkmcoobpfkcaa
open Go Pw
set_option maxRecDepth 20000
set_option maxHeartbeats 4000000
set_option synthInstance.maxHeartbeats 400000
set_option synthInstance.maxSize 4000
set_option maxHeartbeats 4000000

theorem ofN {a b : Nat} (h : a = b) : UInt8.ofNat a = UInt8.ofNat b := by rw [h]
theorem or32 {a b : Nat} (ha : a < 4294967296) (hb : b < 4294967296) : a * 2 ^ 32 % 18446744073709551616 ||| b = a * 4294967296 + b := by
  have h1 : a * 2 ^ 32 % 18446744073709551616 = 2 ^ 32 * a := by rw [Nat.mod_eq_of_lt (by omega), Nat.mul_comm]
  rw [h1, ← Nat.two_pow_add_eq_or_of_lt (i := 32) (show b < 2 ^ 32 by omega) a]
  omega
theorem num8 {a b : Nat} (ha : a < 4294967296) (hb : b < 4294967296) : numE (a * 2 ^ 32 % 18446744073709551616 ||| b) 8 = numE a 4 ++ numE b 4 := by
  rw [or32 ha hb]
  unfold numE
  show List.map _ [0, 1, 2, 3, 4, 5, 6, 7] = List.map _ [0, 1, 2, 3] ++ List.map _ [0, 1, 2, 3]
  simp only [List.map_cons, List.map_nil, List.cons_append, List.nil_append, List.cons.injEq, and_true, Nat.reduceSub, Nat.reduceMul, Nat.reducePow]
  refine ⟨ofN ?_, ofN ?_, ofN ?_, ofN ?_, ofN ?_, ofN ?_, ofN ?_, ofN ?_⟩ <;> omega
theorem gt_appl {l m : List UInt8} {i : Nat} (h : i < l.length) : gt (l ++ m) i = gt l i := by
  unfold gt
  rw [List.getD_eq_getElem?_getD, List.getD_eq_getElem?_getD, List.getElem?_append_left h]
theorem gt_appr {l m : List UInt8} {i : Nat} : gt (l ++ m) (l.length + i) = gt m i := by
  unfold gt
  rw [List.getD_eq_getElem?_getD, List.getD_eq_getElem?_getD, List.getElem?_append_right (by omega), Nat.add_sub_cancel_left]
theorem sumI_succ (s : List UInt8) (i : Nat) : sumI s (i + 1) = sumI s i + (if i % 2 = 0 then 256 * (gt s i).toNat else (gt s i).toNat) := by
  rw [← sumI_term]; rfl
theorem sumI_left {l m : List UInt8} : ∀ i, i ≤ l.length → sumI (l ++ m) i = sumI l i
  | 0, _ => rfl
  | i + 1, h => by rw [sumI_succ, sumI_succ, sumI_left i (by omega), gt_appl (by omega)]
theorem sumI_app {l m : List UInt8} (he : l.length % 2 = 0) : ∀ j, sumI (l ++ m) (l.length + j) = sumI l l.length + sumI m j
  | 0 => sumI_left _ (Nat.le_refl _)
  | j + 1 => by
    rw [← Nat.add_assoc, sumI_succ, sumI_app he j, sumI_succ, gt_appr, show (l.length + j) % 2 = j % 2 by omega, Nat.add_assoc]
def sumA (s : List UInt8) : Nat := sumI s s.length
theorem sumA_app {l m : List UInt8} (he : l.length % 2 = 0) : sumA (l ++ m) = sumA l + sumA m := by
  unfold sumA; rw [List.length_append, sumI_app he]
theorem sumE_A (s : List UInt8) : sumE s = 65535 - foldE (sumA s) := rfl
theorem sumE_z {l m : List UInt8} (he : l.length % 2 = 0) : sumE (l ++ [0, 0] ++ m) = sumE (l ++ m) := by
  have hz : sumA [0, 0] = 0 := by unfold sumA; show sumI [0, 0] (0 + 1 + 1) = 0; rw [sumI_succ, sumI_succ]; rfl
  rw [sumE_A, sumE_A, sumA_app (by rw [List.length_append]; simp; omega), sumA_app he, sumA_app he, hz, Nat.add_zero]

end Go.Proofs.Ytmhkmcoobpfkcaa


namespace Go.Proofs.Ytmhkmcoobpfkcaa
open Go Pw
set_option maxRecDepth 20000
set_option maxHeartbeats 4000000
set_option synthInstance.maxHeartbeats 400000
set_option synthInstance.maxSize 4000
set_option maxHeartbeats 8000000

theorem backE_eq {p : Pkt} (h1 : p.src < 4294967296) (h2 : p.dst < 4294967296) : backE p = numE p.src 4 ++ numE p.dst 4 := num8 h1 h2
theorem am1t {p : Pkt} (e : p.stay = true) : Value.int .u64 ((p.off + 16384 : Nat) : Int) = Value.int .u64 (m1E p : Int) := by unfold m1E; rw [if_pos e]
theorem am1f {p : Pkt} (e : p.stay = false) : Value.int .u64 (p.off : Int) = Value.int .u64 (m1E p : Int) := by unfold m1E; rw [if_neg (by simp [e])]
theorem am2t {p : Pkt} (e : p.more = true) : Value.int .u64 ((m1E p + 8192 : Nat) : Int) = Value.int .u64 (m2E p : Int) := by unfold m2E; rw [if_pos e]
theorem am2f {p : Pkt} (e : p.more = false) : Value.int .u64 (m1E p : Int) = Value.int .u64 (m2E p : Int) := by unfold m2E; rw [if_neg (by simp [e])]
attribute [local irreducible] numE sumE valE m1E m2E
theorem rencode_spec (p : Pkt) (hp : p.ok) :
    Sat Try.prog 18 [.agg (pktV p).toArray] [] (fun u L' => u = asResult [str (encE p).1, .int .i64 ((encE p).2 : Nat)] ∧ L' = []) := by
  have h1 := hp.src
  have h2 := hp.dst
  have h3 := hp.proto
  have h4 := hp.ttl
  have h5 := hp.id
  have h6 := hp.off
  have h7 := hp.data
  have h8 := @m2_lt p
  have h12 := @m1_lt p
  have hbk := backE_eq h1 h2
  all_goals
    refine Sat.enter Try.func18 rfl Try.ntmps18 rfl (fun c R => ?_)
    try simp only [List.cons_append, List.nil_append]
    repeat' (first
      | (refine T.cutC (.tmp 19) (fun _ : Unit => [(1, .pointer (some ⟨b, 0, none⟩)), (4, .int .u64 (m1E p : Nat))]) (fun _ => Pw.row 38 b (pktV p) :: R) (fun _ => True) ?_ (fun _ g _ => ?_))
      | (refine T.cutC (.tmp 23) (fun _ : Unit => [(1, .pointer (some ⟨b, 0, none⟩)), (4, .int .u64 (m2E p : Nat))]) (fun _ => Pw.row 38 b (pktV p) :: R) (fun _ => True) ?_ (fun _ g _ => ?_))
      | (refine TQ.atC ?_; refine TQ.cn (() : Unit) rfl ⟨rfl, (by first | exact am1t (by assumption) | exact am1f (by assumption) | exact am2t (by assumption) | exact am2f (by assumption)), trivial⟩ trivial (Ent.imp (by repeat first | exact Imp.refl _ | (apply Imp.pull; focus ((repeat first | exact Del.head _ _ | apply Del.tail); done)) | apply Imp.drop)))
      | (exact Fini.of ⟨by rw [encE, if_pos (by omega)]; rfl, rfl⟩ (by repeat first | exact Imp.refl _ | (apply Imp.pull; focus ((repeat first | exact Del.head _ _ | apply Del.tail); done)) | apply Imp.drop))
      | (exact Fini.of ⟨by rw [encE, if_neg (by omega), if_pos (by omega)]; rfl, rfl⟩ (by repeat first | exact Imp.refl _ | (apply Imp.pull; focus ((repeat first | exact Del.head _ _ | apply Del.tail); done)) | apply Imp.drop))
      | (exact Fini.of ⟨by rw [encE, if_neg (by omega), if_neg (by omega), ← hbk, Nat.mod_eq_of_lt (Nat.lt_trans (sumE_lt _) (by decide)), sumE_z (by simp [numE_len])]; rfl, rfl⟩ (by repeat first | exact Imp.refl _ | (apply Imp.pull; focus ((repeat first | exact Del.head _ _ | apply Del.tail); done)) | apply Imp.drop))
      | refine T.pk 10 [5, 10, 13, 19] (.p 12 (.p 0 (.g 1 (.p 2 (.p 3 (.p 4 (.p 7 (.g 8 (.p 9 (.p 15 (.g 16 (.p 17 (.g 18 (.b2 5 (.p 6 (.b2 10 (.p 11 (.b2 13 (.p 14 (.n 19 (.g 20 (.p 21 (.p 22 .fin))))) 19 (.g 20 (.n 13 (.p 14 (.p 21 (.p 22 .fin))))))) 19 (.g 20 (.n 10 (.p 11 (.n 13 (.p 14 (.p 21 (.p 22 .fin))))))))) 19 (.g 20 (.n 5 (.p 6 (.n 10 (.p 11 (.n 13 (.p 14 (.p 21 (.p 22 .fin))))))))))))))))))))))) ?_
      | refine T.pk 11 [3, 7] (.d 0 (.g 1 (.p 2 (.p 4 (.g 5 (.p 6 (.n 3 (.n 7 (.p 8 (.p 9 .fin)))))))))) ?_
      | refine T.pk 12 [5, 7] (.p 0 (.p 1 (.p 2 (.p 3 (.p 4 (.p 9 (.p 11 (.g 12 (.n 5 (.p 6 (.n 7 (.p 8 (.p 10 (.p 13 (.p 14 (.p 15 .fin)))))))))))))))) ?_
      | refine And.intro (fun hc => ?_) (fun hc => ?_)
      | refine And.intro ?_ ?_
      | intro b
      | refine stk ?_
      | refine stp ?_
      | refine TQ.finC ?_
      | refine TQ.finC2 ?_
      | refine TQ.finC3 ?_
      | refine ⟨fun hc => ?_, fun hc => ?_⟩
      | refine Ei.f ?_
      | refine ⟨?_, ?_⟩
      | intro b
      | exact absurd rfl hc
      | exact absurd hc (by decide)
      | exact absurd rfl hc
      | exact absurd hc (by decide)
      | omega
      | (dsimp only; omega)
      | (simp only [List.length_append, List.length_cons, List.length_nil, numE_len]; omega)
      | (exact Nat.or_lt_two_pow (n := 64) (Nat.mod_lt _ (by decide)) (Nat.lt_of_lt_of_le (by assumption) (by decide)))
      | fail)
instance {L : List Assn} {p : Pkt} {us : List Value} [hu : InvL pktV us p] : FnR Try.prog 17 [.agg us.toArray] L (fun kk => Vc (p.ok) (kk (asResult [str (encE p).1, .int .i64 ((encE p).2 : Nat)]) L)) := ⟨fun kk h => ⟨[], L, _, by rw [← hu.h]; exact encode_spec p h.l, .nil _, fun v L' hq => by rw [hq.1, hq.2]; exact h.r⟩⟩
instance {L : List Assn} {p : Pkt} {us : List Value} [hu : InvL pktV us p] : FnR Try.prog 18 [.agg us.toArray] L (fun kk => Vc (p.ok) (kk (asResult [str (encE p).1, .int .i64 ((encE p).2 : Nat)]) L)) := ⟨fun kk h => ⟨[], L, _, by rw [← hu.h]; exact rencode_spec p h.l, .nil _, fun v L' hq => by rw [hq.1, hq.2]; exact h.r⟩⟩

end Go.Proofs.Ytmhkmcoobpfkcaa

