/- Lemmas for the proofs of this seat: no statement of the seat is claimed here. -/
import Derived.Test.YthbpjjlinebooaaDoorRj
import Derived.Test.YthbpjjlinebooaaDoorRm
set_option linter.all false

namespace Go.Proofs.YthbpjjlinebooaaDoor
open Go Pw
set_option maxRecDepth 20000
set_option maxHeartbeats 4000000
set_option synthInstance.maxHeartbeats 400000
set_option synthInstance.maxSize 4000
set_option maxHeartbeats 2000000


theorem ok_fed {b : List UInt8} {f : Nat} {l : List (Nat × List UInt8)} (ho : okR b f) (hf : f < 9223372036854775808) : ∀ s, okR (fedE (b, f, l) s).1 (fedE (b, f, l) s).2.1 ∧ (fedE (b, f, l) s).2.1 < 9223372036854775808 ∧ (fedE (b, f, l) s).2.2.length ≤ l.length + s.length
  | [] => ⟨ho, hf, Nat.le_refl _⟩
  | c :: s => by
    rw [fed_cons]
    by_cases h0 : f = 0
    · subst h0
      by_cases hw : fltE (b ++ [c]) = 0 ∧ 5 ≤ (b ++ [c]).length ∧ (b ++ [c]).length = 5 + lngE (b ++ [c])
      · rw [fed_w l hw.1 hw.2.1 hw.2.2]
        have := ok_fed (l := l ++ [((gt (b ++ [c]) 0).toNat, (b ++ [c]).drop 5)]) (ok_nil 0) hf s
        rw [List.length_append, List.length_singleton] at this
        exact ⟨this.1, this.2.1, by rw [List.length_cons]; omega⟩
      · have hn := fed_n (c := c) l ho (by omega)
        rw [hn.1]
        have hb := flt_lt (b ++ [c])
        have := ok_fed (l := l) hn.2 (by omega) s
        exact ⟨this.1, this.2.1, by rw [List.length_cons]; omega⟩
    · have e : fedS (b, f, l) c = (b, f, l) := if_neg h0
      rw [e]
      have := ok_fed (l := l) ho hf s
      exact ⟨this.1, this.2.1, by rw [List.length_cons]; omega⟩
attribute [local irreducible] fedE fltE lngE takeE okR
theorem reads_spec (s : List UInt8) (ps : List Nat) (h : Array Obj) (a : Option Addr) (k : Nat) [hI : InpC h quO a 1 ps.length k (ps.flatMap pcV)] (hp : ∀ j, gt ps j < 65536) (hs : s.length < 4611686018427387904) (hps : ps.length < 4611686018427387904) :
    Sat Tryd.prog 3 [str s, .slice a ps.length k] [quA, oldX h] (fun u L' => u = .bool true ∧ L' = [quA, oldX h]) := by
  all_goals
    refine Sat.enter Tryd.func3 rfl Tryd.ntmps3 rfl (fun c R => ?_)
    try simp only [List.cons_append, List.nil_append]
    repeat' (first
      | (refine T.atB 0 ?_; rename_i p; obtain ⟨x, hx⟩ : ∃ x, x = b := ⟨_, rfl⟩; subst hx; refine T.lpa 0 [(0, _), (1, _), (5, _), (6, _)] ((0, 0, ([], 0), (none, 0)) : Nat × Nat × (List UInt8 × Nat) × (Option Addr × Nat)) (fun z => [(8, .int .i64 (z.1 : Nat)), (7, .int .i64 (z.2.1 : Nat))]) (fun z => [Pw.row 80 p [.slice z.2.2.2.1 z.2.2.1.1.length z.2.2.2.2, .int .i64 (z.2.2.1.2 : Nat), .bool true], sl 5 1 (.slice z.2.2.2.1 z.2.2.1.1.length z.2.2.2.2) z.2.2.1.1.length (z.2.2.1.1.map byteV), Pw.row 28 x [str z.2.2.1.1, .int .i64 (z.2.2.1.2 : Nat)]]) (fun z => (z.1 ≤ ps.length ∨ (z.2.1 = s.length ∧ z.1 ≤ ps.length + 1)) ∧ z.2.1 ≤ s.length ∧ okR z.2.2.1.1 z.2.2.1.2 ∧ z.2.2.1.2 < 9223372036854775808) (fun z => (ps.length - z.1) + (s.length - z.2.1) + (1 - z.1)) ⟨.inl (Nat.zero_le _), Nat.zero_le _, ok_nil 0, by decide⟩ ?_; rintro ⟨i, at_, ⟨bs, f⟩, ⟨a1, k1⟩⟩ g ⟨hI0, hI1, hok, hfl⟩; dsimp only at hI0 hI1 hok hfl ⊢; have hbl := okR_len hok; have hpj := hp i; simp only [List.cons_append, List.nil_append, appR])
      | (refine TQ.atL ?_; refine TQ.rd ((i + 1, _, (_, _), (_, _)) : Nat × Nat × (List UInt8 × Nat) × (Option Addr × Nat)) rfl ⟨rfl, rfl, rfl, rfl, rfl, rfl, trivial⟩ ⟨?_, ?_, ?_, ?_⟩ ?_ (Ent.imp (by repeat first | exact Imp.refl _ | (apply Imp.pull; focus ((repeat first | exact Del.head _ _ | apply Del.tail); done)) | apply Imp.drop)))
      | (intro a3 k3 a4)
      | (intro a5 k5)
      | (refine Vc.mk ⟨rfl, by omega, by omega, by rw [List.length_drop, List.length_take]; omega⟩ ?_)
      | (refine Vc.mk ⟨by omega, hok, by rw [List.length_drop, List.length_take]; omega⟩ ?_)
      | (refine Vc.mk ⟨rfl, rfl, Nat.lt_of_le_of_lt (ok_fed hok hfl _).2.2 (by simp only [List.length_nil, List.length_drop, List.length_take, List.length_cons]; omega), Nat.lt_of_le_of_lt (ok_fed hok hfl _).2.2 (by simp only [List.length_nil, List.length_drop, List.length_take, List.length_cons]; omega)⟩ ?_)
      | exact (ok_fed hok hfl _).1
      | exact (ok_fed hok hfl _).2.1
      | exact absurd rfl hc
      | exact absurd (if_pos (by assumption)) hc
      | exact absurd (if_neg (by assumption)) hc
      | (exact Fini.of ⟨rfl, rfl⟩ (by repeat first | exact Imp.refl _ | (apply Imp.pull; focus ((repeat first | exact Del.head _ _ | apply Del.tail); done)) | apply Imp.drop))
      | (exact Fini.of ⟨congrArg Value.bool (decide_eq_true rfl), rfl⟩ (by repeat first | exact Imp.refl _ | (apply Imp.pull; focus ((repeat first | exact Del.head _ _ | apply Del.tail); done)) | apply Imp.drop))
      | exact absurd (by omega) hc
      | refine And.intro (fun hc => ?_) (fun hc => ?_)
      | refine And.intro ?_ ?_
      | intro b
      | refine stp ?_
      | refine TQ.finC ?_
      | refine TQ.finC2 ?_
      | refine TQ.finC3 ?_
      | refine ⟨fun hc => ?_, fun hc => ?_⟩
      | refine Ei.f ?_
      | refine ⟨?_, ?_⟩
      | intro b
      | omega
      | (dsimp only; omega)
      | (simp only [List.length_append, List.length_replicate, List.length_cons, List.length_nil] <;> omega)
      | fail)

end Go.Proofs.YthbpjjlinebooaaDoor

