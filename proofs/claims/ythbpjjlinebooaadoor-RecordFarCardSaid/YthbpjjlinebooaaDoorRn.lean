/- Lemmas for the proofs of this seat: no statement of the seat is claimed here. -/
import Derived.Test.YthbpjjlinebooaaDoorRj
set_option linter.all false

namespace Go.Proofs.YthbpjjlinebooaaDoor
open Go Pw
set_option maxRecDepth 20000
set_option maxHeartbeats 4000000
set_option synthInstance.maxHeartbeats 400000
set_option synthInstance.maxSize 4000
set_option maxHeartbeats 2000000

theorem bnd_lo (k : Nat) : 16384 ≤ bndE k ∧ bndE k ≤ 16640 := by unfold bndE; split <;> omega
/-- The bytes of a record as RecordFar makes it. -/
def farB (k n : Nat) : List UInt8 := [UInt8.ofNat k, UInt8.ofNat 3, UInt8.ofNat 1, UInt8.ofNat (n / 2 ^ 8 % 256), UInt8.ofNat (n % 256)] ++ List.replicate n 0
theorem far_len (k n : Nat) : (farB k n).length = 5 + n := by unfold farB; simp; omega
theorem far_over {k n : Nat} (h1 : 20 ≤ k) (h2 : k ≤ 23) (hn : n < 65536) (h : bndE k < n) : ∃ b, fedE ([], 0, []) (farB k n) = (b, 251, []) ∧ b.length = 5 := by
  have hk : (UInt8.ofNat k).toNat = k := by rw [UInt8.toNat_ofNat']; omega
  refine ⟨_, fed_over (k := UInt8.ofNat k) (UInt8.ofNat 1) (UInt8.ofNat (n / 2 ^ 8 % 256)) (UInt8.ofNat (n % 256)) (List.replicate n 0) (by rw [hk]; exact ⟨h1, h2⟩) ?_, rfl⟩
  rw [lng5 hn, hk]; exact h
theorem far_rec {k n : Nat} (h1 : 20 ≤ k) (h2 : k ≤ 23) (hn : n < 65536) (h : n ≤ bndE k) (h0 : 0 < n) : fedE ([], 0, []) (farB k n) = ([], 0, [(k, List.replicate n 0)]) := by
  have hk : (UInt8.ofNat k).toNat = k := by rw [UInt8.toNat_ofNat']; omega
  have := fed_rec (k := UInt8.ofNat k) (UInt8.ofNat 1) (UInt8.ofNat (n / 2 ^ 8 % 256)) (UInt8.ofNat (n % 256)) (List.replicate n 0) (by rw [hk]; exact ⟨h1, h2⟩) (by rw [lng5 hn, List.length_replicate]) (by rw [hk, List.length_replicate]; exact h) (.inr (fun e => by have := congrArg List.length e; simp at this; omega))
  rw [hk] at this
  exact this
theorem far_o {k n : Nat} (h1 : 20 ≤ k) (h2 : k ≤ 23) (hn : n < 65536) (h : bndE k < n) : ∃ b, fedE ([], 0, []) ([UInt8.ofNat k, UInt8.ofNat 3, UInt8.ofNat 1, UInt8.ofNat (n / 2 ^ 8), UInt8.ofNat (n % 256)] ++ List.replicate n 0) = (b, 251, []) := by
  obtain ⟨b, hb, _⟩ := far_over h1 h2 hn h
  refine ⟨b, ?_⟩
  rw [← hb, farB, Nat.mod_eq_of_lt (show n / 2 ^ 8 < 256 by omega)]
theorem far_r {k n : Nat} (h1 : 20 ≤ k) (h2 : k ≤ 23) (hn : n < 65536) (h : n ≤ bndE k) (h0 : 0 < n) : fedE ([], 0, []) ([UInt8.ofNat k, UInt8.ofNat 3, UInt8.ofNat 1, UInt8.ofNat (n / 2 ^ 8), UInt8.ofNat (n % 256)] ++ List.replicate n 0) = ([], 0, [(k, List.replicate n 0)]) := by
  rw [← far_rec h1 h2 hn h h0, farB, Nat.mod_eq_of_lt (show n / 2 ^ 8 < 256 by omega)]
attribute [local irreducible] fedE bndE mayE begE farB
theorem far_spec (kind : Nat) (over : Int) (hk : kind < 256) (h1 : -128 ≤ over) (h2 : over ≤ 127) :
    Sat Tryd.prog 4 [.int .u8 (kind : Nat), .int .i8 over] [quA] (fun u L' => u = .bool true ∧ L' = [quA]) := by
  have hw : IntKind.i64.wrap over = over := wrap_fits ⟨by simp only [show IntKind.i64.lim = 9223372036854775808 from rfl]; omega, by simp only [show IntKind.i64.lim = 9223372036854775808 from rfl]; omega⟩
  all_goals
    refine Sat.enter Tryd.func4 rfl Tryd.ntmps4 rfl (fun c R => ?_)
    try simp only [List.cons_append, List.nil_append]
    repeat' (first
      | (refine T.atR 3 ?_; obtain ⟨n, hn, hn2⟩ : ∃ n : Nat, (((bndE (20 + kind % 4) : Nat) : Int) + IntKind.i64.wrap over) = (n : Int) ∧ n < 65536 := ⟨((((bndE (20 + kind % 4) : Nat) : Int) + IntKind.i64.wrap over)).toNat, by have := bnd_lo (20 + kind % 4); rw [hw]; omega, by have := bnd_lo (20 + kind % 4); rw [hw]; omega⟩; simp only [hn]; rw [hw] at hn; have hb := bnd_lo (20 + kind % 4); refine Hold.h ?_)
      | refine T.pk 4 [7, 10, 13] (.p 0 (.p 1 (.p 2 (.p 3 (.p 4 (.p 5 (.p 6 (.p 9 (.b2 7 (.g 8 (.n 10 (.g 11 (.p 12 (.n 13 (.p 14 (.p 15 (.p 16 (.p 17 (.p 18 .fin)))))))))) 10 (.g 11 (.n 7 (.g 8 (.p 12 (.n 13 (.p 14 (.p 15 (.p 16 (.p 17 (.p 18 .fin))))))))))))))))))) ?_
      | refine T.pl 7 [9, 19] (.p 0 (.p 1 (.p 2 (.p 3 (.p 4 (.p 7 (.p 8 (.b2 5 (.b2 6 (.n 9 (.d 10 (.p 11 (.p 12 (.p 13 (.p 14 (.p 15 (.p 16 (.p 17 (.p 18 (.n 19 (.p 20 (.p 21 .fin))))))))))))) 9 (.d 6 (.d 10 (.p 11 (.p 12 (.p 13 (.p 14 (.p 15 (.p 16 (.p 17 (.p 18 (.n 19 (.p 20 (.p 21 .fin)))))))))))))) 9 (.d 5 (.d 6 (.d 10 (.p 11 (.p 12 (.p 13 (.p 14 (.p 15 (.p 16 (.p 17 (.p 18 (.n 19 (.p 20 (.p 21 .fin)))))))))))))))))))))) ?_
      | refine And.intro (fun hc => ?_) (fun hc => ?_)
      | refine And.intro ?_ ?_
      | intro b
      | refine stk ?_
      | refine stp ?_
      | refine TQ.finC ?_
      | refine TQ.finC2 ?_
      | refine TQ.finC3 ?_
      | refine ⟨fun hc => ?_, fun hc => ?_⟩
      | refine Ei.f ?_
      | refine ⟨?_, ?_⟩
      | intro b
      | omega
      | (dsimp only; omega)
      | (simp only [List.length_append, List.length_replicate, List.length_cons, List.length_nil] <;> omega)
      | (simp only [hw, show IntKind.i64.lim = 9223372036854775808 from rfl]; have := bnd_lo (20 + kind % 4); omega)
      |  fail)
    all_goals try refine Hold.mk ?_
    repeat' (first
      | (refine T.atR 5 ?_; refine Or.elim (Int.lt_or_le 0 over) (fun ho => Hold.h ?_) (fun ho => Hold.h ?_))
      | (refine Vc.mk ⟨by omega, by decide, by decide, by omega, by omega, trivial⟩ ?_)
      | exact absurd rfl hc
      | exact absurd rfl (of_decide_eq_false hc)
      | exact absurd rfl (of_decide_eq_true hc)
      | (refine T.atR 7 ?_; exfalso; omega)
      | exact absurd hc (by decide)
      | exact absurd (by decide) hc
      | (exact Fini.of ⟨rfl, rfl⟩ (by repeat first | exact Imp.refl _ | (apply Imp.pull; focus ((repeat first | exact Del.head _ _ | apply Del.tail); done)) | apply Imp.drop))
      | (exact Fini.of ⟨congrArg Value.bool (decide_eq_true rfl), rfl⟩ (by repeat first | exact Imp.refl _ | (apply Imp.pull; focus ((repeat first | exact Del.head _ _ | apply Del.tail); done)) | apply Imp.drop))
      | refine T.pk 4 [7, 10, 13] (.p 0 (.p 1 (.p 2 (.p 3 (.p 4 (.p 5 (.p 6 (.p 9 (.b2 7 (.g 8 (.n 10 (.g 11 (.p 12 (.n 13 (.p 14 (.p 15 (.p 16 (.p 17 (.p 18 .fin)))))))))) 10 (.g 11 (.n 7 (.g 8 (.p 12 (.n 13 (.p 14 (.p 15 (.p 16 (.p 17 (.p 18 .fin))))))))))))))))))) ?_
      | refine T.pl 7 [9, 19] (.p 0 (.p 1 (.p 2 (.p 3 (.p 4 (.p 7 (.p 8 (.b2 5 (.b2 6 (.n 9 (.d 10 (.p 11 (.p 12 (.p 13 (.p 14 (.p 15 (.p 16 (.p 17 (.p 18 (.n 19 (.p 20 (.p 21 .fin))))))))))))) 9 (.d 6 (.d 10 (.p 11 (.p 12 (.p 13 (.p 14 (.p 15 (.p 16 (.p 17 (.p 18 (.n 19 (.p 20 (.p 21 .fin)))))))))))))) 9 (.d 5 (.d 6 (.d 10 (.p 11 (.p 12 (.p 13 (.p 14 (.p 15 (.p 16 (.p 17 (.p 18 (.n 19 (.p 20 (.p 21 .fin)))))))))))))))))))))) ?_
      | refine And.intro (fun hc => ?_) (fun hc => ?_)
      | refine And.intro ?_ ?_
      | intro b
      | refine stk ?_
      | refine stp ?_
      | refine TQ.finC ?_
      | refine TQ.finC2 ?_
      | refine TQ.finC3 ?_
      | refine ⟨fun hc => ?_, fun hc => ?_⟩
      | refine Ei.f ?_
      | refine ⟨?_, ?_⟩
      | intro b
      | omega
      | (dsimp only; omega)
      | (simp only [List.length_append, List.length_replicate, List.length_cons, List.length_nil] <;> omega)
      | (simp only [hw, show IntKind.i64.lim = 9223372036854775808 from rfl]; have := bnd_lo (20 + kind % 4); omega)
      |  fail)
    all_goals try refine Hold.mk ?_
    repeat' (first
      | (refine T.atR 5 ?_; guard_hyp ho : 0 < over; obtain ⟨b5, hb5⟩ := far_o (k := 20 + kind % 4) (n := n) (by omega) (by omega) hn2 (by omega); simp only [hb5])
      | (refine T.atR 5 ?_; guard_hyp ho : over ≤ 0; have hb5 := far_r (k := 20 + kind % 4) (n := n) (by omega) (by omega) hn2 (by omega) (by omega); simp only [hb5])
      | exact absurd rfl hc
      | exact absurd rfl (of_decide_eq_false hc)
      | exact absurd rfl (of_decide_eq_true hc)
      | (refine T.atR 7 ?_; exfalso; omega)
      | exact absurd hc (by decide)
      | exact absurd (by decide) hc
      | (exact Fini.of ⟨rfl, rfl⟩ (by repeat first | exact Imp.refl _ | (apply Imp.pull; focus ((repeat first | exact Del.head _ _ | apply Del.tail); done)) | apply Imp.drop))
      | (exact Fini.of ⟨congrArg Value.bool (decide_eq_true rfl), rfl⟩ (by repeat first | exact Imp.refl _ | (apply Imp.pull; focus ((repeat first | exact Del.head _ _ | apply Del.tail); done)) | apply Imp.drop))
      | exact absurd ho hc
      | exact absurd (by omega) hc
      | refine T.pk 4 [7, 10, 13] (.p 0 (.p 1 (.p 2 (.p 3 (.p 4 (.p 5 (.p 6 (.p 9 (.b2 7 (.g 8 (.n 10 (.g 11 (.p 12 (.n 13 (.p 14 (.p 15 (.p 16 (.p 17 (.p 18 .fin)))))))))) 10 (.g 11 (.n 7 (.g 8 (.p 12 (.n 13 (.p 14 (.p 15 (.p 16 (.p 17 (.p 18 .fin))))))))))))))))))) ?_
      | refine T.pl 7 [9, 19] (.p 0 (.p 1 (.p 2 (.p 3 (.p 4 (.p 7 (.p 8 (.b2 5 (.b2 6 (.n 9 (.d 10 (.p 11 (.p 12 (.p 13 (.p 14 (.p 15 (.p 16 (.p 17 (.p 18 (.n 19 (.p 20 (.p 21 .fin))))))))))))) 9 (.d 6 (.d 10 (.p 11 (.p 12 (.p 13 (.p 14 (.p 15 (.p 16 (.p 17 (.p 18 (.n 19 (.p 20 (.p 21 .fin)))))))))))))) 9 (.d 5 (.d 6 (.d 10 (.p 11 (.p 12 (.p 13 (.p 14 (.p 15 (.p 16 (.p 17 (.p 18 (.n 19 (.p 20 (.p 21 .fin)))))))))))))))))))))) ?_
      | refine And.intro (fun hc => ?_) (fun hc => ?_)
      | refine And.intro ?_ ?_
      | intro b
      | refine stk ?_
      | refine stp ?_
      | refine TQ.finC ?_
      | refine TQ.finC2 ?_
      | refine TQ.finC3 ?_
      | refine ⟨fun hc => ?_, fun hc => ?_⟩
      | refine Ei.f ?_
      | refine ⟨?_, ?_⟩
      | intro b
      | omega
      | (dsimp only; omega)
      | (simp only [List.length_append, List.length_replicate, List.length_cons, List.length_nil] <;> omega)
      | (simp only [hw, show IntKind.i64.lim = 9223372036854775808 from rfl]; have := bnd_lo (20 + kind % 4); omega)
      | fail)

end Go.Proofs.YthbpjjlinebooaaDoor

