/- Lemmas for the proofs of this seat: no statement of the seat is claimed here. -/
import Derived.Test.YthbpjjlinebooaaDoorRe
import Derived.Test.YthbpjjlinebooaaDoorRd
import Derived.Test.YthbpjjlinebooaaDoorShelf
set_option linter.all false

namespace Go.Proofs.YthbpjjlinebooaaDoor
open Go Pw
set_option maxRecDepth 20000
set_option maxHeartbeats 4000000
set_option synthInstance.maxHeartbeats 400000
set_option synthInstance.maxSize 4000
set_option maxHeartbeats 2000000
/-- What a half seals, its code and its count after it. -/
def sealH (key iv : List UInt8) (ct mo k : Nat) (t : List UInt8) (pad : Int) : List UInt8 × Nat × Nat :=
  if k < 21 ∨ k > 23 ∨ pad < 0 then ([], 2, ct)
  else if t.length > 16384 ∨ pad > 16384 - (t.length : Int) then ([], 4, ct)
  else if ct ≥ mo then ([], 254, ct)
  else (begE 23 (sealedE key iv ct (t ++ [UInt8.ofNat k] ++ List.replicate pad.toNat 0)).length ++ sealedE key iv ct (t ++ [UInt8.ofNat k] ++ List.replicate pad.toNat 0), 0, ct + 1)
theorem sealed_len {key iv s : List UInt8} {ct : Nat} (hk : key.length = 32) (hi : iv.length = 12) (hs : s.length ≤ 65536) : (sealedE key iv ct s).length = s.length + 16 := by
  unfold sealedE
  exact (open_seal hk (by rw [nonE, nonS_len]; exact hi) (by rw [begE_len]; omega)).2.2
theorem sealH_2 {key iv t : List UInt8} {ct mo k : Nat} {pad : Int} (h : k < 21 ∨ k > 23 ∨ pad < 0) : sealH key iv ct mo k t pad = ([], 2, ct) := if_pos h
theorem sealH_4 {key iv t : List UInt8} {ct mo k : Nat} {pad : Int} (h : ¬ (k < 21 ∨ k > 23 ∨ pad < 0)) (h2 : t.length > 16384 ∨ pad > 16384 - (t.length : Int)) : sealH key iv ct mo k t pad = ([], 4, ct) := by rw [sealH, if_neg h, if_pos h2]
theorem sealH_s {key iv t : List UInt8} {ct mo k : Nat} {pad : Int} (h : ¬ (k < 21 ∨ k > 23 ∨ pad < 0)) (h2 : ¬ (t.length > 16384 ∨ pad > 16384 - (t.length : Int))) (h3 : ct ≥ mo) : sealH key iv ct mo k t pad = ([], 254, ct) := by rw [sealH, if_neg h, if_neg h2, if_pos h3]
theorem sealH_0 {key iv t : List UInt8} {ct mo k : Nat} {pad : Nat} (h : ¬ (k < 21 ∨ k > 23)) (h2 : ¬ (t.length > 16384 ∨ t.length + pad > 16384)) (h3 : ¬ ct ≥ mo) : sealH key iv ct mo k t (pad : Int) = (begE 23 (sealedE key iv ct (t ++ [UInt8.ofNat k] ++ List.replicate pad 0)).length ++ sealedE key iv ct (t ++ [UInt8.ofNat k] ++ List.replicate pad 0), 0, ct + 1) := by
  rw [sealH, if_neg (by omega), if_neg (by omega), if_neg h3]; rfl
attribute [local irreducible] sealedE sealH
instance {L R : List Assn} {p ct mo : Nat} {x y : Int} {key iv s : List UInt8} [hx : Nn x ct] [hy : Nn y mo] [hd : RowDel L p 70 [str key, str iv, .int .u64 x, .int .u64 y] R] : FnR Tryd.prog 19 [.pointer (some ⟨p, 0, none⟩), str s] L (fun q => Vc (iv.length = 12 ∧ ct < 18446744073709551616 ∧ s.length < 4294967280) (q (str (sealedE key iv ct s)) (Pw.row 70 p [str key, str iv, .int .u64 (ct : Nat), .int .u64 (mo : Nat)] :: R))) :=
  ⟨fun q h => ⟨_, R, _, Sealed_spec p ct mo key iv s h.l.1 h.l.2.1 h.l.2.2, Pick.of1 (by have := hd.h; rw [hx.h, hy.h] at this; exact this), fun v L' hq => by rw [hq.1, hq.2]; exact h.r⟩⟩
theorem rseal_neg (p ct mo k : Nat) (key iv t : List UInt8) (hk : key.length = 32) (hi : iv.length = 12) (hct : ct ≤ 4294967296) (hmo : mo ≤ 4294967296) (hk2 : k < 256) (ht : t.length < 4611686018427387904) (pad : Int) (hp : pad < 0) (hp1 : -9223372036854775808 ≤ pad) :
    Sat Tryd.prog 21 [.pointer (some ⟨p, 0, none⟩), .agg #[.int .u8 (k : Nat), str t], .int .i64 pad] [Pw.row 70 p [str key, str iv, .int .u64 (ct : Nat), .int .u64 (mo : Nat)]] (fun u L' => u = asResult [str (sealH key iv ct mo k t pad).1, .int .i64 ((sealH key iv ct mo k t pad).2.1 : Nat)] ∧ L' = [Pw.row 70 p [str key, str iv, .int .u64 ((sealH key iv ct mo k t pad).2.2 : Nat), .int .u64 (mo : Nat)]]) := by
  all_goals
    refine Sat.enter Tryd.func21 rfl Tryd.ntmps21 rfl (fun c R => ?_)
    try simp only [List.cons_append, List.nil_append]
    repeat' (first
      | (exact absurd hp hc)
      | (exact Fini.of ⟨by rw [sealH_2 (by omega)]; rfl, by rw [sealH_2 (by omega)]⟩ (by repeat first | exact Imp.refl _ | (apply Imp.pull; focus ((repeat first | exact Del.head _ _ | apply Del.tail); done)) | apply Imp.drop))
      | (refine T.atR 5 ?_; exfalso; omega)
      | refine T.pl 5 [] (.p 0 (.p 1 (.p 4 (.p 5 (.d 2 (.d 3 (.d 6 (.d 7 (.p 8 .fin))))))))) ?_
      | refine T.pk 7 [5, 9, 12] (.p 0 (.p 8 (.p 1 (.g 2 (.p 3 (.g 4 (.b2 5 (.g 6 (.p 7 (.n 9 (.g 10 (.p 11 (.n 12 (.p 13 .fin))))))) 9 (.g 10 (.n 5 (.g 6 (.p 7 (.p 11 (.n 12 (.p 13 .fin)))))))))))))) ?_
      | refine And.intro (fun hc => ?_) (fun hc => ?_)
      | refine And.intro ?_ ?_
      | intro b
      | refine stk ?_
      | refine stp ?_
      | refine TQ.finC ?_
      | refine TQ.finC2 ?_
      | refine TQ.finC3 ?_
      | refine ⟨fun hc => ?_, fun hc => ?_⟩
      | refine Ei.f ?_
      | refine ⟨?_, ?_⟩
      | intro b
      | omega
      | (dsimp only; omega)
      | (simp only [List.length_append, List.length_replicate, List.length_cons, List.length_nil] <;> omega)
      | fail)
theorem rseal_nat (p ct mo k : Nat) (key iv t : List UInt8) (hk : key.length = 32) (hi : iv.length = 12) (hct : ct ≤ 4294967296) (hmo : mo ≤ 4294967296) (hk2 : k < 256) (ht : t.length < 4611686018427387904) (pad : Nat) (hp : pad < 9223372036854775808) :
    Sat Tryd.prog 21 [.pointer (some ⟨p, 0, none⟩), .agg #[.int .u8 (k : Nat), str t], .int .i64 (pad : Nat)] [Pw.row 70 p [str key, str iv, .int .u64 (ct : Nat), .int .u64 (mo : Nat)]] (fun u L' => u = asResult [str (sealH key iv ct mo k t (pad : Int)).1, .int .i64 ((sealH key iv ct mo k t (pad : Int)).2.1 : Nat)] ∧ L' = [Pw.row 70 p [str key, str iv, .int .u64 ((sealH key iv ct mo k t (pad : Int)).2.2 : Nat), .int .u64 (mo : Nat)]]) := by
  all_goals
    refine Sat.enter Tryd.func21 rfl Tryd.ntmps21 rfl (fun c R => ?_)
    try simp only [List.cons_append, List.nil_append]
    repeat' (first
      | (exact Fini.of ⟨by rw [sealH_2 (by omega)]; rfl, by rw [sealH_2 (by omega)]⟩ (by repeat first | exact Imp.refl _ | (apply Imp.pull; focus ((repeat first | exact Del.head _ _ | apply Del.tail); done)) | apply Imp.drop))
      | (exact Fini.of ⟨by rw [sealH_4 (by omega) (by omega)]; rfl, by rw [sealH_4 (by omega) (by omega)]⟩ (by repeat first | exact Imp.refl _ | (apply Imp.pull; focus ((repeat first | exact Del.head _ _ | apply Del.tail); done)) | apply Imp.drop))
      | (exact Fini.of ⟨by rw [sealH_s (by omega) (by omega) (by omega)]; rfl, by rw [sealH_s (by omega) (by omega) (by omega)]⟩ (by repeat first | exact Imp.refl _ | (apply Imp.pull; focus ((repeat first | exact Del.head _ _ | apply Del.tail); done)) | apply Imp.drop))
      | (exact Fini.of ⟨by rw [sealH_0 (by omega) (by omega) (by omega)]; rfl, by rw [sealH_0 (by omega) (by omega) (by omega)]⟩ (by repeat first | exact Imp.refl _ | (apply Imp.pull; focus ((repeat first | exact Del.head _ _ | apply Del.tail); done)) | apply Imp.drop))
      | (refine Vc.mk ⟨hi, by omega, by simp only [List.length_append, List.length_replicate, List.length_cons, List.length_nil]; omega⟩ ?_)
      | (refine Vc.mk ⟨by decide, by rw [sealed_len hk hi (by simp only [List.length_append, List.length_replicate, List.length_cons, List.length_nil]; omega)]; simp only [List.length_append, List.length_replicate, List.length_cons, List.length_nil]; omega⟩ ?_)
      | refine T.pl 5 [] (.p 0 (.p 1 (.p 4 (.p 5 (.d 2 (.d 3 (.d 6 (.d 7 (.p 8 .fin))))))))) ?_
      | refine T.pk 7 [5, 9, 12] (.p 0 (.p 8 (.p 1 (.g 2 (.p 3 (.g 4 (.b2 5 (.g 6 (.p 7 (.n 9 (.g 10 (.p 11 (.n 12 (.p 13 .fin))))))) 9 (.g 10 (.n 5 (.g 6 (.p 7 (.p 11 (.n 12 (.p 13 .fin)))))))))))))) ?_
      | refine And.intro (fun hc => ?_) (fun hc => ?_)
      | refine And.intro ?_ ?_
      | intro b
      | refine stk ?_
      | refine stp ?_
      | refine TQ.finC ?_
      | refine TQ.finC2 ?_
      | refine TQ.finC3 ?_
      | refine ⟨fun hc => ?_, fun hc => ?_⟩
      | refine Ei.f ?_
      | refine ⟨?_, ?_⟩
      | intro b
      | omega
      | (dsimp only; omega)
      | (simp only [List.length_append, List.length_replicate, List.length_cons, List.length_nil] <;> omega)
      | fail)

end Go.Proofs.YthbpjjlinebooaaDoor


namespace Go.Proofs.YthbpjjlinebooaaDoor
open Go Pw
set_option maxRecDepth 20000
set_option maxHeartbeats 4000000
set_option synthInstance.maxHeartbeats 400000
set_option synthInstance.maxSize 4000
set_option maxHeartbeats 400000

/-! Bytes at the end that are nought. -/
def trR (s : List UInt8) : List UInt8 := (s.reverse.dropWhile (· == 0)).reverse
theorem trR_zero (s : List UInt8) : trR (s ++ [0]) = trR s := by
  unfold trR; rw [List.reverse_append]; rfl
theorem trR_last (s : List UInt8) {c : UInt8} (h : c ≠ 0) : trR (s ++ [c]) = s ++ [c] := by
  unfold trR
  rw [List.reverse_append]
  show (List.dropWhile _ (c :: s.reverse)).reverse = _
  rw [List.dropWhile_cons, if_neg (by simpa using h), List.reverse_cons, List.reverse_reverse]
theorem trR_pad (s : List UInt8) : ∀ n, trR (s ++ List.replicate n 0) = trR s
  | 0 => by rw [List.replicate, List.append_nil]
  | n + 1 => by rw [List.replicate_succ', ← List.append_assoc, trR_zero, trR_pad s n]
theorem trR_len (s : List UInt8) : (trR s).length ≤ s.length := by
  unfold trR
  rw [List.length_reverse]
  exact Nat.le_trans (List.dropWhile_sublist _).length_le (Nat.le_of_eq List.length_reverse)
theorem take_gt {s : List UInt8} {k : Nat} (h : k < s.length) : s.take (k + 1) = s.take k ++ [gt s k] := by
  rw [List.take_succ, gt, List.getD_eq_getElem?_getD]; simp [h]
/-- What stands in an opened text. -/
def innE (m : List UInt8) : (Nat × List UInt8) × Nat :=
  if m.length = 0 ∨ (gt m (m.length - 1)).toNat < 21 ∨ 23 < (gt m (m.length - 1)).toNat ∨ ((gt m (m.length - 1)).toNat ≠ 23 ∧ m.length = 1) then ((0, []), 253)
  else (((gt m (m.length - 1)).toNat, m.take (m.length - 1)), 0)
def openE (key iv : List UInt8) (ct : Nat) (s : List UInt8) : List UInt8 × Nat := OpenE key (nonE iv ct) (begE 23 s.length) s
/-- What a half opens, its code and its count after it. -/
def openH (key iv : List UInt8) (ct mo : Nat) (s : List UInt8) : (Nat × List UInt8) × Nat × Nat :=
  if ct ≥ mo then ((0, []), 254, ct)
  else if s.length > 16640 then ((0, []), 251, ct)
  else if (openE key iv ct s).2 ≠ 0 then ((0, []), 252, ct)
  else if (openE key iv ct s).1.length > 16385 then ((0, []), 251, ct + 1)
  else ((innE (trR (openE key iv ct s).1)).1, (innE (trR (openE key iv ct s).1)).2, ct + 1)
theorem openH_s {key iv s : List UInt8} {ct mo : Nat} (h : ct ≥ mo) : openH key iv ct mo s = ((0, []), 254, ct) := if_pos h
theorem openH_o {key iv s : List UInt8} {ct mo : Nat} (h : ¬ ct ≥ mo) (h2 : s.length > 16640) : openH key iv ct mo s = ((0, []), 251, ct) := by rw [openH, if_neg h, if_pos h2]
theorem openH_m {key iv s : List UInt8} {ct mo : Nat} (h : ¬ ct ≥ mo) (h2 : ¬ s.length > 16640) (h3 : (openE key iv ct s).2 ≠ 0) : openH key iv ct mo s = ((0, []), 252, ct) := by rw [openH, if_neg h, if_neg h2, if_pos h3]
theorem openH_v {key iv s : List UInt8} {ct mo : Nat} (h : ¬ ct ≥ mo) (h2 : ¬ s.length > 16640) (h3 : ¬ (openE key iv ct s).2 ≠ 0) (h4 : (openE key iv ct s).1.length > 16385) : openH key iv ct mo s = ((0, []), 251, ct + 1) := by rw [openH, if_neg h, if_neg h2, if_neg h3, if_pos h4]
theorem openH_k {key iv s m : List UInt8} {ct mo : Nat} (h : ¬ ct ≥ mo) (h2 : ¬ s.length > 16640) (h3 : ¬ (openE key iv ct s).2 ≠ 0) (h4 : ¬ (openE key iv ct s).1.length > 16385) (hm : trR (openE key iv ct s).1 = m) : openH key iv ct mo s = ((innE m).1, (innE m).2, ct + 1) := by rw [openH, if_neg h, if_neg h2, if_neg h3, if_neg h4, hm]
theorem trR_step {s : List UInt8} {k : Nat} (h : 0 < k) (hk : k ≤ s.length) (h0 : (gt s (k - 1)).toNat = 0) : trR (s.take k) = trR (s.take (k - 1)) := by
  have e : gt s (k - 1) = 0 := UInt8.toNat_inj.1 h0
  have := take_gt (s := s) (k := k - 1) (by omega)
  rw [Nat.sub_add_cancel h, e] at this
  rw [this, trR_zero]
theorem trR_stop {s : List UInt8} {k : Nat} (hk : k ≤ s.length) (h : k = 0 ∨ (gt s (k - 1)).toNat ≠ 0) : trR (s.take k) = s.take k := by
  by_cases h0 : k = 0
  · subst h0; rfl
  · have := take_gt (s := s) (k := k - 1) (by omega)
    rw [Nat.sub_add_cancel (by omega)] at this
    rw [this, trR_last]
    intro e
    rcases h with h | h
    · exact h0 h
    · exact h (by rw [e]; rfl)
theorem innE_e {s m : List UInt8} {k : Nat} (hm : m = s.take k) (hk : k ≤ s.length) (h : k = 0 ∨ (gt s (k - 1)).toNat < 21 ∨ 23 < (gt s (k - 1)).toNat ∨ ((gt s (k - 1)).toNat ≠ 23 ∧ k = 1)) : innE m = ((0, []), 253) := by
  subst hm
  have hl : (s.take k).length = k := by rw [List.length_take]; omega
  rw [innE, hl]
  by_cases h0 : k = 0
  · rw [if_pos (.inl h0)]
  · have hg : gt (s.take k) (k - 1) = gt s (k - 1) := by unfold gt; rw [List.getD_eq_getElem?_getD, List.getD_eq_getElem?_getD, List.getElem?_take_of_lt (by omega)]
    rw [hg, if_pos h]
theorem innE_g {s m : List UInt8} {k : Nat} (hm : m = s.take k) (hk : k ≤ s.length) (h : ¬ (k = 0 ∨ (gt s (k - 1)).toNat < 21 ∨ 23 < (gt s (k - 1)).toNat ∨ ((gt s (k - 1)).toNat ≠ 23 ∧ k = 1))) : innE m = (((gt s (k - 1)).toNat, s.take (k - 1)), 0) := by
  subst hm
  have hl : (s.take k).length = k := by rw [List.length_take]; omega
  have hg : gt (s.take k) (k - 1) = gt s (k - 1) := by unfold gt; rw [List.getD_eq_getElem?_getD, List.getD_eq_getElem?_getD, List.getElem?_take_of_lt (by omega)]
  rw [innE, hl, hg, if_neg h, List.take_take, Nat.min_eq_left (by omega)]
theorem innE_ok {t : List UInt8} {k : Nat} (h1 : 21 ≤ k) (h2 : k ≤ 23) (h3 : k = 23 ∨ t ≠ []) : innE (t ++ [UInt8.ofNat k]) = ((k, t), 0) := by
  have e : (t ++ [UInt8.ofNat k]).length - 1 = t.length := by simp
  have g : gt (t ++ [UInt8.ofNat k]) t.length = UInt8.ofNat k := by
    unfold gt; rw [List.getD_eq_getElem?_getD, List.getElem?_append_right (Nat.le_refl _)]; simp
  have kk : (UInt8.ofNat k).toNat = k := by rw [UInt8.toNat_ofNat']; omega
  have hl : (t ++ [UInt8.ofNat k]).length = t.length + 1 := by simp
  rw [innE, e, g, kk, hl, if_neg, List.take_left' rfl]
  intro h
  rcases h with h | h | h | ⟨h, h4⟩
  · omega
  · omega
  · omega
  · rcases h3 with h3 | h3
    · exact h h3
    · exact h3 (List.length_eq_zero_iff.1 (by omega))
/-! What one half sealed another one opens. -/
theorem seals_opens {key iv t : List UInt8} {ct mo k pad : Nat} (hk : key.length = 32) (hi : iv.length = 12) (h1 : 21 ≤ k) (h2 : k ≤ 23) (h3 : k = 23 ∨ t ≠ []) (hl : t.length + pad ≤ 16384) (hc : ct < mo) :
    ∃ c, sealH key iv ct mo k t (pad : Int) = (begE 23 c.length ++ c, 0, ct + 1) ∧ c.length = t.length + 1 + pad + 16 ∧ openH key iv ct mo c = ((k, t), 0, ct + 1) := by
  have hs : (t ++ [UInt8.ofNat k] ++ List.replicate pad (0 : UInt8)).length = t.length + 1 + pad := by simp; omega
  have hn : (nonE iv ct).length = 12 := by rw [nonE, nonS_len]; exact hi
  have ho := open_seal (key := key) (nonce := nonE iv ct) (ad := begE 23 ((t ++ [UInt8.ofNat k] ++ List.replicate pad (0 : UInt8)).length + 16)) (s := t ++ [UInt8.ofNat k] ++ List.replicate pad 0) hk hn (by rw [begE_len, hs]; omega)
  have hcl := sealed_len (key := key) (iv := iv) (s := t ++ [UInt8.ofNat k] ++ List.replicate pad (0 : UInt8)) (ct := ct) hk hi (by omega)
  rw [hs] at hcl
  refine ⟨sealedE key iv ct (t ++ [UInt8.ofNat k] ++ List.replicate pad 0), sealH_0 (by omega) (by omega) (by omega), hcl, ?_⟩
  have e : openE key iv ct (sealedE key iv ct (t ++ [UInt8.ofNat k] ++ List.replicate pad 0)) = (t ++ [UInt8.ofNat k] ++ List.replicate pad 0, 0) := by
    unfold openE
    rw [hcl, ← hs]
    exact ho.1
  rw [openH, if_neg (by omega), if_neg (by omega), e]
  dsimp only
  rw [if_neg (by simp), if_neg (by omega), trR_pad, trR_last t (fun h => by
    have := congrArg UInt8.toNat h
    rw [UInt8.toNat_ofNat', show (0 : UInt8).toNat = 0 from rfl] at this
    omega), innE_ok h1 h2 h3]
/-! What a reader makes of a whole record. -/
theorem gt_app {α : Type} [Inhabited α] {b c : List α} {i : Nat} (h : i < b.length) : gt (b ++ c) i = gt b i := by
  unfold gt; rw [List.getD_eq_getElem?_getD, List.getElem?_append_left h, ← List.getD_eq_getElem?_getD]
theorem lng_app {b c : List UInt8} (h : 5 ≤ b.length) : lngE (b ++ c) = lngE b := by unfold lngE; rw [gt_app (by omega), gt_app (by omega)]
theorem flt_big {b : List UInt8} (h : 6 ≤ b.length) : fltE b = 0 := by rw [fltE, if_neg (by omega), if_neg (by omega), if_neg (by omega)]
theorem fed_cons (z : List UInt8 × Nat × List (Nat × List UInt8)) (c : UInt8) (t : List UInt8) : fedE z (c :: t) = fedE (fedS z c) t := rfl
theorem fed_nil (z : List UInt8 × Nat × List (Nat × List UInt8)) : fedE z [] = z := rfl
theorem fed_more {b : List UInt8} {c : UInt8} (l : List (Nat × List UInt8)) (h : fltE (b ++ [c]) = 0) (h2 : b.length + 1 < 5 ∨ b.length + 1 < 5 + lngE (b ++ [c])) : fedS (b, 0, l) c = (b ++ [c], 0, l) := by
  have e : takeE b c = (b ++ [c], 0, none) := by
    rw [takeE, if_pos (by rw [List.length_append, List.length_singleton]; omega), h]
  rw [fedS, if_pos rfl]; dsimp only; rw [e]
  simp only [Option.toList, List.append_nil]
theorem fed_flt {b : List UInt8} {c : UInt8} (l : List (Nat × List UInt8)) (h : fltE (b ++ [c]) ≠ 0) : fedS (b, 0, l) c = (b ++ [c], fltE (b ++ [c]), l) := by
  have e : takeE b c = (b ++ [c], fltE (b ++ [c]), none) := by rw [takeE, if_pos (.inl h)]
  rw [fedS, if_pos rfl]; dsimp only; rw [e]
  simp only [Option.toList, List.append_nil]
theorem fed_whole {b : List UInt8} {c : UInt8} (l : List (Nat × List UInt8)) (h : fltE (b ++ [c]) = 0) (h1 : 5 ≤ b.length + 1) (h2 : ¬ b.length + 1 < 5 + lngE (b ++ [c])) : fedS (b, 0, l) c = ([], 0, l ++ [((gt (b ++ [c]) 0).toNat, (b ++ [c]).drop 5)]) := by
  have e : takeE b c = ([], 0, some ((gt (b ++ [c]) 0).toNat, (b ++ [c]).drop 5)) := by
    rw [takeE, if_neg (by rw [List.length_append, List.length_singleton]; omega)]
  rw [fedS, if_pos rfl]; dsimp only; rw [e]; rfl
theorem fed_body : ∀ (t b : List UInt8) (l : List (Nat × List UInt8)), 5 ≤ b.length → b.length + t.length < 5 + lngE b → fedE (b, 0, l) t = (b ++ t, 0, l)
  | [], b, l, _, _ => by rw [List.append_nil]; rfl
  | c :: t, b, l, h, h2 => by
    rw [List.length_cons] at h2
    have hl : (b ++ [c]).length = b.length + 1 := by simp
    rw [fed_cons, fed_more l (flt_big (by omega)) (by rw [lng_app h]; omega), fed_body t (b ++ [c]) l (by omega) (by rw [lng_app h]; omega), List.append_assoc]; rfl
theorem flt1 {k : UInt8} (hk : kindP k.toNat) : fltE [k] = 0 := by rw [flt_1 (b := [k]) rfl]; exact if_pos hk
theorem flt2 {k : UInt8} : fltE [k, 3] = 0 := by rw [flt_2 (b := [k, 3]) rfl]; exact if_pos rfl
theorem flt34 {b : List UInt8} (h : b.length = 3 ∨ b.length = 4) : fltE b = 0 := by rw [fltE, if_neg (by omega), if_neg (by omega), if_neg (by omega)]
theorem flt5 {k v hi lo : UInt8} : fltE [k, 3, v, hi, lo] = if bndE k.toNat < lngE [k, 3, v, hi, lo] then 251 else if lngE [k, 3, v, hi, lo] = 0 ∧ k.toNat ≠ 23 then 253 else 0 := by
  rw [flt_5 (b := [k, 3, v, hi, lo]) rfl]; rfl
theorem fed_head {k : UInt8} (v hi : UInt8) (hk : kindP k.toNat) (t : List UInt8) : fedE ([], 0, []) (k :: 3 :: v :: hi :: t) = fedE ([k, 3, v, hi], 0, []) t := by
  have e1 : fedS ([], 0, []) k = ([k], 0, []) := fed_more [] (flt1 hk) (.inl (by simp))
  have e2 : fedS ([k], 0, []) 3 = ([k, 3], 0, []) := fed_more (b := [k]) [] flt2 (.inl (by simp))
  have e3 : fedS ([k, 3], 0, []) v = ([k, 3, v], 0, []) := fed_more (b := [k, 3]) [] (flt34 (.inl rfl)) (.inl (by simp))
  have e4 : fedS ([k, 3, v], 0, []) hi = ([k, 3, v, hi], 0, []) := fed_more (b := [k, 3, v]) [] (flt34 (.inr rfl)) (.inl (by simp))
  rw [fed_cons, e1, fed_cons, e2, fed_cons, e3, fed_cons, e4]
theorem fed_over {k : UInt8} (v hi lo : UInt8) (t : List UInt8) (hk : kindP k.toNat) (h : bndE k.toNat < lngE [k, 3, v, hi, lo]) : fedE ([], 0, []) (k :: 3 :: v :: hi :: lo :: t) = ([k, 3, v, hi, lo], 251, []) := by
  have e : fltE [k, 3, v, hi, lo] = 251 := by rw [flt5, if_pos h]
  rw [fed_head v hi hk, fed_cons, fed_flt (b := [k, 3, v, hi]) [] (by show fltE [k, 3, v, hi, lo] ≠ 0; rw [e]; simp)]
  show fedE ([k, 3, v, hi, lo], fltE [k, 3, v, hi, lo], []) t = _
  rw [e]
  exact fed_stuck (by simp) t
theorem fed_rec {k : UInt8} (v hi lo : UInt8) (t : List UInt8) (hk : kindP k.toNat) (hn : lngE [k, 3, v, hi, lo] = t.length) (hb : t.length ≤ bndE k.toNat) (h0 : k.toNat = 23 ∨ t ≠ []) : fedE ([], 0, []) (k :: 3 :: v :: hi :: lo :: t) = ([], 0, [(k.toNat, t)]) := by
  have e : fltE [k, 3, v, hi, lo] = 0 := by
    rw [flt5, hn, if_neg (by omega), if_neg]
    intro ⟨h1, h2⟩
    rcases h0 with h0 | h0
    · exact h2 h0
    · exact h0 (List.length_eq_zero_iff.1 h1)
  rw [fed_head v hi hk, fed_cons]
  rcases List.eq_nil_or_concat t with rfl | ⟨u, c, rfl⟩
  · rw [fed_whole (b := [k, 3, v, hi]) [] e (by simp) (by show ¬ _ < 5 + lngE [k, 3, v, hi, lo]; rw [hn]; simp)]
    rfl
  · rw [List.concat_eq_append] at hn ⊢
    have hl : (u ++ [c]).length = u.length + 1 := by simp
    rw [fed_more (b := [k, 3, v, hi]) [] e (.inr (by show _ < 5 + lngE [k, 3, v, hi, lo]; rw [hn, hl]; simp))]
    show fedE ([k, 3, v, hi, lo], 0, []) (u ++ [c]) = _
    rw [fed_app, fed_body u [k, 3, v, hi, lo] [] (by simp) (by rw [hn, hl]; simp), fed_cons, fed_whole [] (flt_big (by simp)) (by simp) (by rw [List.append_assoc, lng_app (by simp), hn, hl]; simp; omega)]
    rfl
theorem lng5 {k v : UInt8} {n : Nat} (h : n < 65536) : lngE [k, 3, v, UInt8.ofNat (n / 2 ^ 8 % 256), UInt8.ofNat (n % 256)] = n := by
  unfold lngE
  show (UInt8.ofNat (n / 2 ^ 8 % 256)).toNat * 2 ^ 8 ||| (UInt8.ofNat (n % 256)).toNat = n
  rw [UInt8.toNat_ofNat', UInt8.toNat_ofNat', Nat.mod_mod, Nat.mod_mod, Nat.mul_comm, ← Nat.two_pow_add_eq_or_of_lt (Nat.mod_lt _ (by decide))]
  omega

end Go.Proofs.YthbpjjlinebooaaDoor


namespace Go.Proofs.YthbpjjlinebooaaDoor
open Go Pw
set_option maxRecDepth 20000
set_option maxHeartbeats 4000000
set_option synthInstance.maxHeartbeats 400000
set_option synthInstance.maxSize 4000
set_option maxHeartbeats 2000000

theorem _root_.Pw.T.cutR {P : Program} {r : Rd} {c : Ctx} {L : List Assn} {Q : Exit → Env → Rd → World → Prop} (id : Nat) {n : Nat} {l0 : List (Nat × Value)} {g0 : Nat → Value} {S : Type} {ops : Array Oper} {dr : Bool} {y : Code} (sl : S → List (Nat × Value)) (H : S → List Assn) (I : S → Prop)
    (h : T P r c L (.region id ops dr) (cutQ r c n sl H I Q) ⟨n, l0, g0⟩) (k : ∀ s g, I s → T P r c (H s) y Q ⟨n, sl s, g⟩) : T P r c L (.seq (.region id ops dr) y) Q ⟨n, l0, g0⟩ := T.cut sl H I h k
theorem repeatL_zero (n : Nat) : Lib.repeatL [0] n = List.replicate n 0 := by
  induction n with
  | zero => rfl
  | succ n ih => rw [Lib.repeatL, ih]; rfl
theorem repeat_spec (n : Nat) (hn : n ≤ 1099511627776) : Sat Tryd.prog 40 [str [0], .int .i64 n] [] (fun u L' => u = str (List.replicate n 0) ∧ L' = []) :=
  Sat.of_below fun w => by
    have := Tryd.strings_Repeat ⟨#[0]⟩ n w (by omega) (by show 1 * n ≤ _; omega)
    rw [show (ByteArray.mk #[0]).data.toList = [0] from rfl, repeatL_zero] at this
    exact this
theorem trim_spec (m : List UInt8) (hm : m.length ≤ 1099511627776) : Sat Tryd.prog 43 [str m, str [0]] [] (fun u L' => u = str (trR m) ∧ L' = []) :=
  Sat.of_same fun w => by
    have := Tryd.strings_TrimRight_one ⟨m.toArray⟩ 0 (by decide) w (by show m.toArray.size ≤ _; rw [List.size_toArray]; omega)
    exact this
instance {L : List Assn} {n : Nat} {x : Int} [hx : Nn x n] : FnR Tryd.prog 40 [str [0], .int .i64 x] L (fun kk => Vc (n ≤ 1099511627776) (kk (str (List.replicate n 0)) L)) :=
  ⟨fun kk h => ⟨[], L, _, (by rw [hx.h]; exact repeat_spec n h.l), .nil _, fun v L' hq => by rw [hq.1, hq.2]; exact h.r⟩⟩
instance {L : List Assn} {m : List UInt8} : FnR Tryd.prog 43 [str m, str [0]] L (fun kk => Vc (m.length ≤ 1099511627776) (kk (str (trR m)) L)) :=
  ⟨fun kk h => ⟨[], L, _, trim_spec m h.l, .nil _, fun v L' hq => by rw [hq.1, hq.2]; exact h.r⟩⟩
theorem sealed_eq {key iv s : List UInt8} {ct n : Nat} (hk : key.length = 32) (hi : iv.length = 12) (hs : s.length ≤ 65536) (hn : s.length + 16 = n) : SealE key (nonE iv ct) (begE 23 n) s = (sealedE key iv ct s, 0) := by
  subst hn
  have h := (open_seal (key := key) (nonce := nonE iv ct) (ad := begE 23 (s.length + 16)) (s := s) hk (by rw [nonE, nonS_len]; exact hi) (by rw [begE_len]; omega)).2.1
  unfold sealedE
  rw [← h]
instance (priority := 2000) {L R : List Assn} {key iv s : List UInt8} {ct n : Nat} [hd : DelC quA L R] : FnR Tryd.prog 38 [str key, str (nonE iv ct), str (begE 23 n), str s] L (fun q => Vc (key.length = 32 ∧ iv.length = 12 ∧ s.length + 16 = n ∧ s.length ≤ 65536) (q (asResult [str (sealedE key iv ct s), .int .i64 (0 : Nat)]) (quA :: R))) :=
  ⟨fun q h => ⟨_, R, _, Seal_spec key (nonE iv ct) (begE 23 n) s (by rw [begE_len]; omega) (by have := h.l.2.2.2; omega), Pick.of1 hd.h, fun v L' hq => by rw [hq.1, hq.2, sealed_eq h.l.1 h.l.2.1 h.l.2.2.2 h.l.2.2.1]; exact h.r⟩⟩

end Go.Proofs.YthbpjjlinebooaaDoor

