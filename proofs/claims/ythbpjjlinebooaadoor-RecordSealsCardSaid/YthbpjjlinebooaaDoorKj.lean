/- Lemmas for the proofs of this seat: no statement of the seat is claimed here. -/
import Derived.Test.YthbpjjlinebooaaDoorKf
set_option linter.all false

namespace Go.Proofs.YthbpjjlinebooaaDoor
open Go Pw
set_option maxRecDepth 20000
set_option maxHeartbeats 4000000
set_option maxHeartbeats 1000000

/-- Four words mixed, round by round. -/
def mixE (xs : List Nat) (a b c d : Nat) : Nat → List Nat
  | 0 => xs
  | i + 1 => qh a b c d (16 - 8 * i) (12 - 5 * i) (mixE xs a b c d i)
theorem mixE_2 (xs : List Nat) (a b c d : Nat) : mixE xs a b c d 2 = quart (a, b, c, d) xs := rfl
instance instLnMix {n a b c d i : Nat} {ys : List Nat} [h : Ln ys n] : Ln (mixE ys a b c d i) n := by
  induction i with
  | zero => exact h
  | succ i ih => rw [mixE]; infer_instance
instance instB32Mix {a b c d i : Nat} {ys : List Nat} [h : B32 ys] : B32 (mixE ys a b c d i) := by
  induction i with
  | zero => exact h
  | succ i ih => rw [mixE]; infer_instance
theorem TQ.atL {r : Rd} {c : Ctx} {L : List Assn} {Q : Exit → Env → Rd → World → Prop} {E : Env} {S : Type} {n : Nat} {sl : S → List (Nat × Value)} {H : S → List Assn} {I : S → Prop} {μ : S → Nat} {s : S} (h : TQ r c L (loopQ r c n sl H I μ s Q) .normal E) : TQ r c L (loopQ r c n sl H I μ s Q) .normal E := h
theorem sub_8 {m k : Nat} (h : k = 32 - m) (x : Nat) : x * 2 ^ m % 4294967296 ||| x / 2 ^ k = rotE x m := by rw [h]; rfl
instance {x k : Nat} [h : Lt32 x] : Lt32 (x / k) := ⟨Nat.lt_of_le_of_lt (Nat.div_le_self _ _) h.h⟩
instance {x y : Nat} [h1 : Lt32 x] [h2 : Lt32 y] : Lt32 (x ||| y) := ⟨Nat.or_lt_two_pow (n := 32) h1.h h2.h⟩
attribute [local irreducible] gt rotE
theorem mix_spec (xs : List Nat) (A B C D : Nat) [Ln xs 16] [B32 xs] (hA : A < 16) (hB : B < 16) (hC : C < 16) (hD : D < 16) :
    Sat Tryd.prog 84 [.agg ((xs.map vU32).toArray), .int .i64 A, .int .i64 B, .int .i64 C, .int .i64 D] [] (fun u L' => u = .agg (((quart (A, B, C, D) xs).map vU32).toArray) ∧ L' = []) := by
  all_goals
    refine Sat.enter Tryd.func84 rfl Tryd.ntmps84 rfl (fun c R => ?_)
    try simp only [List.cons_append, List.nil_append]
    repeat' (first
      | (first | refine Vc.mk ⟨Lt32.h, Lt32.h⟩ ?_ | refine Vc.mk ⟨by decide, Lt32.h⟩ ?_ | refine Vc.mk (lt_ln (by first | decide | assumption)) ?_ | refine Vc.mk ⟨lt_ln (by first | decide | assumption), trivial⟩ ?_)
      | (refine T.atB 0 ?_; rename_i bx; refine T.lpa 0 [(1, _), (2, _), (3, _), (4, _), (5, _), (10, _)] ((0, xs) : Nat × List Nat) (fun s => [(11, .int .i64 (s.1 : Nat))]) (fun s => [row 140 bx (s.2.map vU32)]) (fun s => s.1 ≤ 2 ∧ s.2 = mixE xs A B C D s.1) (fun s => 2 - s.1) ⟨Nat.zero_le _, rfl⟩ ?_; rintro ⟨i, ys⟩ g ⟨hI, hy⟩; dsimp only at hI hy ⊢; haveI : Ln ys 16 := (by rw [hy]; infer_instance); haveI : B32 ys := (by rw [hy]; infer_instance); simp only [List.cons_append, List.nil_append, appR])
      | exact Lt32.h
      | exact lt_ln ‹_›
      | exact (List.length_map ..).trans Ln.h
      | exact ((List.length_map ..).trans Ln.h).symm
      | (refine TQ.atL ?_; refine TQ.rd (i + 1, _) rfl ⟨rfl, rfl, rfl, rfl, rfl, rfl, rfl, trivial⟩ ⟨by omega, ?_⟩ (by dsimp only; omega) (Ent.imp (by repeat first | exact Imp.refl _ | (apply Imp.pull; focus ((repeat first | exact Del.head _ _ | apply Del.tail); done)) | apply Imp.drop)))
      | (dsimp only; simp only [sub_8 (show 32 - (16 - 8 * i) = 32 - (16 - 8 * i) from rfl), sub_8 (show 32 - (12 - 5 * i) = 32 - (12 - 5 * i) from rfl)]; rw [hy]; rfl)
      | (have e2 : i = 2 := (by omega); subst e2; exact Fini.mk ⟨by rw [hy, mixE_2], rfl⟩)
      | refine T.pl 6 [9] (.p 0 (.p 1 (.p 2 (.p 4 (.p 5 (.d 3 (.d 6 (.p 7 (.p 8 (.n 9 .fin)))))))))) ?_
      | refine T.pl 7 [] (.p 0 (.p 1 (.p 3 (.p 4 (.d 2 (.d 5 (.p 6 (.p 7 .fin)))))))) ?_
      | refine T.pl 9 [9] (.p 0 (.p 1 (.p 2 (.p 4 (.p 5 (.d 3 (.d 6 (.p 7 (.p 8 (.n 9 .fin)))))))))) ?_
      | refine T.pl 10 [] (.p 0 (.p 1 (.p 3 (.p 4 (.d 2 (.d 5 (.p 6 (.p 7 .fin)))))))) ?_
      | refine And.intro (fun hc => ?_) (fun hc => ?_)
      | refine And.intro ?_ ?_
      | intro b
      | refine stp ?_
      | refine TQ.finC ?_
      | refine TQ.finC2 ?_
      | refine TQ.finC3 ?_
      | refine ⟨fun hc => ?_, fun hc => ?_⟩
      | refine Ei.f ?_
      | refine ⟨?_, ?_⟩
      | intro b
      | omega
      | (dsimp only; omega)
      | fail)

end Go.Proofs.YthbpjjlinebooaaDoor


namespace Go.Proofs.YthbpjjlinebooaaDoor
open Go Pw
set_option maxRecDepth 20000
set_option maxHeartbeats 4000000
set_option maxHeartbeats 1000000

instance {L : List Assn} {us : List Nat} {A B C D : Nat} {x y z w : Int} [hx : Nn x A] [hy : Nn y B] [hz : Nn z C] [hw : Nn w D] [Ln us 16] [B32 us] : FnR Tryd.prog 84 [.agg (us.map vU32).toArray, .int .i64 x, .int .i64 y, .int .i64 z, .int .i64 w] L (fun kk => Vc (A < 16 ∧ B < 16 ∧ C < 16 ∧ D < 16) (kk (.agg ((quart (A, B, C, D) us).map vU32).toArray) L)) :=
  ⟨fun kk h => ⟨[], L, _, by rw [hx.h, hy.h, hz.h, hw.h]; exact mix_spec us A B C D h.l.1 h.l.2.1 h.l.2.2.1 h.l.2.2.2, .nil _, fun v L' hq => by rw [hq.1, hq.2]; exact h.r⟩⟩
/-- The words of a text, gathered from behind: what stands from byte m on. -/
def downE (l : List UInt8) : Nat → List Nat
  | 0 => List.replicate 16 0
  | t + 1 => (downE l t).set ((63 - t) / 4) (gt (downE l t) ((63 - t) / 4) * 2 ^ 8 % 4294967296 ||| (gt l (63 - t)).toNat)
instance instLnDown {l : List UInt8} {t : Nat} : Ln (downE l t) 16 := by
  induction t with
  | zero => exact ⟨rfl⟩
  | succ t ih => rw [downE]; infer_instance
instance {b : UInt8} : Lt32 b.toNat := ⟨Nat.lt_of_lt_of_le (UInt8.toNat_lt _) (by decide)⟩
instance instB32Down {l : List UInt8} {t : Nat} : B32 (downE l t) := by
  induction t with
  | zero => exact ⟨fun j => by
      unfold gt downE
      rw [List.getD_eq_getElem?_getD, List.getElem?_replicate]
      split <;> decide⟩
  | succ t ih => rw [downE]; infer_instance
theorem gt_set {xs : List Nat} {i j x : Nat} (h : i < xs.length) : gt (xs.set i x) j = if i = j then x else gt xs j := by
  unfold gt
  rw [List.getD_eq_getElem?_getD, List.getD_eq_getElem?_getD, List.getElem?_set]
  split
  · next e => subst e; simp [h]
  · rfl
theorem drop_get {l : List UInt8} {k : Nat} (h : k < l.length) : l.drop k = gt l k :: l.drop (k + 1) := by
  rw [List.drop_eq_getElem_cons h]
  congr 1
  unfold gt
  rw [List.getD_eq_getElem?_getD, List.getElem?_eq_getElem h]; rfl
theorem down_at {l : List UInt8} (hl : l.length = 64) : ∀ t, t ≤ 64 → ∀ j, j < 16 → gt (downE l t) j = leE ((l.drop (max (64 - t) (4 * j))).take (4 * j + 4 - max (64 - t) (4 * j)))
  | 0, _, j, hj => by
    rw [show 4 * j + 4 - max (64 - 0) (4 * j) = 0 by omega, List.take_zero]
    unfold gt downE
    rw [List.getD_eq_getElem?_getD, List.getElem?_replicate, if_pos hj]
    rfl
  | t + 1, ht, j, hj => by
    have ih := down_at hl t (by omega) 
    rw [downE, gt_set (by rw [instLnDown.h]; omega)]
    split
    · next e =>
      rw [ih _ (by omega)]
      obtain ⟨k, hk⟩ : ∃ k, k = 63 - t := ⟨_, rfl⟩
      rw [← hk] at e ⊢
      rw [show 64 - t = k + 1 by omega, show 64 - (t + 1) = k by omega, e, show max (k + 1) (4 * j) = k + 1 by omega, show max k (4 * j) = k by omega]
      rw [drop_get (l := l) (k := k) (by omega), show 4 * j + 4 - k = (4 * j + 4 - (k + 1)) + 1 by omega, List.take_succ_cons, leE]
      have h1 := leE_lt ((l.drop (k + 1)).take (4 * j + 4 - (k + 1)))
      have h2 : 256 ^ ((l.drop (k + 1)).take (4 * j + 4 - (k + 1))).length ≤ 256 ^ 3 := Nat.pow_le_pow_right (by omega) (by rw [List.length_take]; omega)
      have h3 := (gt l k).toNat_lt
      generalize leE ((l.drop (k + 1)).take (4 * j + 4 - (k + 1))) = z at *
      rw [Nat.mod_eq_of_lt (by omega), Nat.or_comm, or_add (by omega)]
      omega
    · next e =>
      rw [ih j hj]
      by_cases h : 4 * j + 4 ≤ 63 - t
      · rw [show 4 * j + 4 - max (64 - t) (4 * j) = 0 by omega, show 4 * j + 4 - max (64 - (t + 1)) (4 * j) = 0 by omega, List.take_zero, List.take_zero]
      · rw [show max (64 - t) (4 * j) = 4 * j by omega, show max (64 - (t + 1)) (4 * j) = 4 * j by omega]
theorem gt_ext_nat {a b : List Nat} (h : a.length = b.length) (hh : ∀ j < a.length, gt a j = gt b j) : a = b := by
  apply List.ext_getElem h
  intro i h1 h2
  have := hh i h1
  unfold gt at this
  simpa [List.getD_eq_getElem?_getD, h1, h2] using this
theorem down_words {l : List UInt8} (hl : l.length = 64) : downE l 64 = wordsE l 16 16 := by
  apply gt_ext_nat
  · rw [instLnDown.h, wordsE_len (by omega)]
  · intro j hj
    rw [instLnDown.h] at hj
    rw [down_at hl 64 (by omega) j hj, show max (64 - 64) (4 * j) = 4 * j by omega, show 4 * j + 4 - 4 * j = 4 by omega]
    unfold gt wordsE
    rw [Nat.sub_self, List.replicate_zero, List.append_nil, List.getD_eq_getElem?_getD, List.getElem?_map, List.getElem?_range hj]
    show _ = wordE l j
    rw [wordE, Nat.mod_eq_of_lt]
    have h1 := leE_lt ((l.drop (4 * j)).take 4)
    have h2 : 256 ^ ((l.drop (4 * j)).take 4).length ≤ 256 ^ 4 := Nat.pow_le_pow_right (by omega) (by rw [List.length_take]; omega)
    omega

end Go.Proofs.YthbpjjlinebooaaDoor


namespace Go.Proofs.YthbpjjlinebooaaDoor
open Go Pw
set_option maxRecDepth 20000
set_option maxHeartbeats 4000000
set_option maxHeartbeats 1000000

theorem leB4 (x : Nat) : leB x 4 = [UInt8.ofNat (x / 2 ^ (8 * 0)), UInt8.ofNat (x / 2 ^ (8 * 1)), UInt8.ofNat (x / 2 ^ (8 * 2)), UInt8.ofNat (x / 2 ^ (8 * 3))] := rfl
theorem leB4_get (x : Nat) {j : Nat} (h : j < 4) : (leB x 4)[j]? = some (UInt8.ofNat (x / 2 ^ (8 * j))) := by
  rw [leB4]
  rcases (by omega : j = 0 ∨ j = 1 ∨ j = 2 ∨ j = 3) with rfl | rfl | rfl | rfl <;> rfl
theorem outs_get {xs ys : List Nat} : ∀ {i j : Nat}, j < 4 * i → (outsE xs ys i)[j]? = some (UInt8.ofNat ((gt xs (j / 4) + gt ys (j / 4)) % 4294967296 / 2 ^ (j % 4 * 8)))
  | 0, j, h => by omega
  | i + 1, j, h => by
    rw [outsE, List.getElem?_append, outsE_len]
    split
    · next h2 => exact outs_get h2
    · next h2 =>
      rw [leB4_get _ (by omega), show j / 4 = i by omega, show j - 4 * i = j % 4 by omega, Nat.mul_comm 8]
def outN (xs ys : List Nat) (i : Nat) : List UInt8 := (outsE xs ys 16).take i ++ List.replicate (64 - i) 0
theorem outN_len {xs ys : List Nat} {i : Nat} (h : i ≤ 64) : (outN xs ys i).length = 64 := by
  rw [outN, List.length_append, List.length_take, outsE_len, List.length_replicate]; omega
theorem outN_set {xs ys : List Nat} {i : Nat} (h : i < 64) : (outN xs ys i).set i (UInt8.ofNat ((gt xs (i / 4) + gt ys (i / 4)) % 4294967296 / 2 ^ (i % 4 * 8))) = outN xs ys (i + 1) := by
  have hl : ((outsE xs ys 16).take i).length = i := by rw [List.length_take, outsE_len]; omega
  have hg := outs_get (xs := xs) (ys := ys) (i := 16) (j := i) (by omega)
  rw [outN, List.set_append_right _ _ (by omega), hl, Nat.sub_self, show 64 - i = (64 - (i + 1)) + 1 by omega, List.replicate_succ, List.set_cons_zero, outN, List.take_add_one, hg]
  simp
theorem outN_64 {xs ys : List Nat} : outN xs ys 64 = outsE xs ys 16 := by
  rw [outN, Nat.sub_self, List.replicate_zero, List.append_nil, List.take_of_length_le (by rw [outsE_len]; omega)]
theorem byte_mod (n : Nat) : UInt8.ofNat (n % 256) = UInt8.ofNat n := by
  apply UInt8.toNat_inj.1; simp
theorem le4_eq (n : Nat) : [UInt8.ofNat (n % 256), UInt8.ofNat (n / 2 ^ 8 % 256), UInt8.ofNat (n / 2 ^ 16 % 256), UInt8.ofNat (n / 2 ^ 24 % 256)] = leB n 4 := by
  rw [leB4, byte_mod, byte_mod, byte_mod, byte_mod]; simp
instance (priority := 700) {L : List Assn} {a b e e' : TypeId} {p : Option Addr} {n k : Nat} {us : List Value} {l : List UInt8} {C : Prop} [ha : Und Tryd.prog a (.slice e)] [hb : Und Tryd.prog b .string] [he : Und Tryd.prog e (.int .u8)] [hm : SlMem L (.slice p n k) e' 1 n us] [hl : BL us l C] {c : Ctx} : Re Tryd.prog c L (.conv a b (.slice p n k)) (fun q => Vc C (q (str l))) :=
  ⟨fun E d op ty pos af g hs q hq => by
    cases hs with | conv e1 =>
    have h1 := hm.h
    rw [hl.h hq.l] at h1
    exact ⟨_, D.cbsE e1 ha.h hb.h he.h h1, hq.r⟩⟩
theorem le4_eq' {n : Nat} : [UInt8.ofNat (n % 256), UInt8.ofNat (n / 2 ^ 8 % 256), UInt8.ofNat (n / 2 ^ 16 % 256), UInt8.ofNat (n / 2 ^ 24)] = leB n 4 := by
  rw [leB4, byte_mod, byte_mod, byte_mod]; simp
theorem down_0 {l : List UInt8} : [.int .u32 0, .int .u32 0, .int .u32 0, .int .u32 0, .int .u32 0, .int .u32 0, .int .u32 0, .int .u32 0, .int .u32 0, .int .u32 0, .int .u32 0, .int .u32 0, .int .u32 0, .int .u32 0, .int .u32 0, .int .u32 0] = (downE l 0).map vU32 := rfl
theorem outN_0 {xs ys : List Nat} : List.replicate 64 (.int .u8 0) = (outN xs ys 0).map byteV := by
  rw [outN, List.take_zero, List.nil_append, List.map_replicate]; rfl
theorem qrs_a {ys : List Nat} {k : Nat} (h : k < 4) : quart (k, 4 + k, 8 + k, 12 + k) (qrs ys k) = qrs ys (k + 1) := by
  rcases (by omega : k = 0 ∨ k = 1 ∨ k = 2 ∨ k = 3) with rfl | rfl | rfl | rfl <;> rfl
theorem qrs_b {ys : List Nat} {k : Nat} (h : k < 4) : quart (k, 4 + (k + 1) % 4, 8 + (k + 2) % 4, 12 + (k + 3) % 4) (qrs ys (4 + k)) = qrs ys (4 + (k + 1)) := by
  rcases (by omega : k = 0 ∨ k = 1 ∨ k = 2 ∨ k = 3) with rfl | rfl | rfl | rfl <;> rfl
instance (priority := 850) (n : Nat) : Nn (no_index (@OfNat.ofNat Int n instOfNat)) (no_index (@OfNat.ofNat Nat n (instOfNatNat n))) := ⟨rfl⟩
instance {q : Nat × Nat × Nat × Nat} {ys : List Nat} {n : Nat} [h : Ln ys n] : Ln (quart q ys) n := by unfold quart; infer_instance
instance {q : Nat × Nat × Nat × Nat} {ys : List Nat} [h : B32 ys] : B32 (quart q ys) := by unfold quart; infer_instance
theorem outN_0' {xs ys : List Nat} : outN xs ys 0 = List.replicate 64 0 := by
  rw [outN, List.take_zero, List.nil_append]
abbrev vI64 (x : Int) : Value := .int .i64 x
attribute [local irreducible] gt rotE leE leB downE qrs rnds outsE outN qsE
theorem refBlock_spec (key nonce : List UInt8) (n : Nat) (h1 : key.length = 32) (h2 : nonce.length = 12) (hn : n < 4294967296) :
    Sat Tryd.prog 71 [str key, str nonce, .int .u32 n] [] (fun u L' => u = str (blockE key nonce n) ∧ L' = []) := by
  all_goals
    refine Sat.enter Tryd.func71 rfl Tryd.ntmps71 rfl (fun c R => ?_)
    try simp only [List.cons_append, List.nil_append]
    repeat' (first
      | (refine TQ.atL ?_; refine TQ.rd (i5 + 1, _) rfl ⟨rfl, rfl, rfl, rfl, trivial⟩ ⟨by omega, ?_⟩ (by dsimp only; omega) (Ent.imp (by repeat first | exact Imp.refl _ | (apply Imp.pull; focus ((repeat first | exact Del.head _ _ | apply Del.tail); done)) | apply Imp.drop)); dsimp only; exact outN_set (by omega))
      | (rw [outN_len hI5]; omega)
      | (have e5 : i5 = 64 := (by omega); subst e5; exact Fini.mk ⟨by rw [List.drop_zero, List.take_of_length_le (by rw [outN_len hI5]; omega), hy, outN_64]; unfold blockE; rfl, rfl⟩)
      | exact ((List.length_map ..).trans Ln.h).trans ((List.length_map ..).trans Ln.h).symm
      | exact lt_ln (by omega)
      | exact (List.length_map ..).trans Ln.h
      | exact ((List.length_map ..).trans Ln.h).symm
      | exact trivial
      | (have hlim : (IntKind.i64.lim : Int) = 9223372036854775808 := rfl; omega)
      | (refine T.atB 2 ?_; rename_i bx; obtain ⟨yb, hyb⟩ : ∃ yb, yb = b := ⟨_, rfl⟩; subst hyb; have hi64 : i = 64 := (by omega); subst hi64; rw [down_words htl]; haveI : Ln (wordsE (textE key nonce n) 16 16) 16 := ⟨wordsE_len (Nat.le_refl _)⟩; haveI : B32 (wordsE (textE key nonce n) 16 16) := wordsE_B32; refine T.lpa 2 [(8, _), (10, _)] ((0, (wordsE (textE key nonce n) 16 16)) : Nat × List Nat) (fun s => [(11, .int .i64 (s.1 : Nat))]) (fun s => [row 140 yb (s.2.map vU32)]) (fun s => s.1 ≤ 10 ∧ s.2 = rnds (wordsE (textE key nonce n) 16 16) s.1) (fun s => 10 - s.1) ⟨Nat.zero_le _, rnds_0⟩ ?_; rintro ⟨i2, ys⟩ g ⟨hI2, hy⟩; dsimp only at hI2 hy ⊢; haveI : Ln ys 16 := (by rw [hy]; infer_instance); haveI : B32 ys := (by rw [hy]; infer_instance); simp only [List.cons_append, List.nil_append, appR])
      | (refine T.atB 4 ?_; refine T.lpa 4 [(8, _), (10, _), (11, _)] ((0, ys) : Nat × List Nat) (fun s => [(12, .int .i64 (s.1 : Nat))]) (fun s => [row 140 yb (s.2.map vU32)]) (fun s => s.1 ≤ 4 ∧ s.2 = qrs ys s.1) (fun s => 4 - s.1) ⟨Nat.zero_le _, qrs_0⟩ ?_; rintro ⟨i3, zs⟩ g ⟨hI3, hz⟩; dsimp only at hI3 hz ⊢; haveI : Ln zs 16 := (by rw [hz]; infer_instance); haveI : B32 zs := (by rw [hz]; infer_instance); simp only [List.cons_append, List.nil_append, appR])
      | (refine T.atB 6 ?_; refine T.lpa 6 [(8, _), (10, _), (11, _)] ((0, zs) : Nat × List Nat) (fun s => [(13, .int .i64 (s.1 : Nat))]) (fun s => [row 140 yb (s.2.map vU32)]) (fun s => s.1 ≤ 4 ∧ s.2 = qrs ys (4 + s.1)) (fun s => 4 - s.1) ⟨Nat.zero_le _, by have e4 : i3 = 4 := (by omega); subst e4; exact hz⟩ ?_; rintro ⟨i4, us⟩ g ⟨hI4, hu⟩; dsimp only at hI4 hu ⊢; haveI : Ln us 16 := (by rw [hu]; infer_instance); haveI : B32 us := (by rw [hu]; infer_instance); simp only [List.cons_append, List.nil_append, appR])
      | (refine TQ.atL ?_; refine TQ.rd (i3 + 1, _) rfl ⟨rfl, rfl, rfl, rfl, trivial⟩ ⟨by omega, ?_⟩ (by dsimp only; omega) (Ent.imp (by repeat first | exact Imp.refl _ | (apply Imp.pull; focus ((repeat first | exact Del.head _ _ | apply Del.tail); done)) | apply Imp.drop)); dsimp only; rw [hz]; exact qrs_a (by omega))
      | (refine TQ.atL ?_; refine TQ.rd (i4 + 1, _) rfl ⟨rfl, rfl, rfl, rfl, trivial⟩ ⟨by omega, ?_⟩ (by dsimp only; omega) (Ent.imp (by repeat first | exact Imp.refl _ | (apply Imp.pull; focus ((repeat first | exact Del.head _ _ | apply Del.tail); done)) | apply Imp.drop)); dsimp only; rw [hu]; exact qrs_b (by omega))
      | (refine TQ.atL ?_; refine TQ.rd (i2 + 1, _) rfl ⟨rfl, rfl, rfl, trivial⟩ ⟨by omega, ?_⟩ (by dsimp only; omega) (Ent.imp (by repeat first | exact Imp.refl _ | (apply Imp.pull; focus ((repeat first | exact Del.head _ _ | apply Del.tail); done)) | apply Imp.drop)); dsimp only; have e4 : i4 = 4 := (by omega); rw [hu, e4, hy]; exact rnds_s)
      | (refine T.atB 8 ?_; have hi10 : i2 = 10 := (by omega); subst hi10; refine T.osl ?_ (fun bt j rest e1 e2 hr hl => ?_); omega; cases e1; obtain rfl : j = 0 := (by omega); obtain rfl := List.eq_nil_of_length_eq_zero hr; rw [List.append_nil]; refine T.lpa 8 [(8, _), (10, _), (14, _)] ((0, List.replicate 64 0) : Nat × List UInt8) (fun s => [(15, .int .i64 (s.1 : Nat))]) (fun s => [row 5 b (s.2.map byteV)]) (fun s => s.1 ≤ 64 ∧ s.2 = outN (wordsE (textE key nonce n) 16 16) ys s.1) (fun s => 64 - s.1) ⟨Nat.zero_le _, outN_0'.symm⟩ ?_; rintro ⟨i5, bs⟩ g ⟨hI5, hb⟩; dsimp only at hI5 hb ⊢; subst hb; simp only [List.cons_append, List.nil_append, appR])
      | (first | refine Vc.mk ⟨Lt32.h, Lt32.h⟩ ?_ | refine Vc.mk ⟨by decide, Lt32.h⟩ ?_ | refine Vc.mk (lt_ln (by first | decide | assumption)) ?_ | refine Vc.mk ⟨lt_ln (by first | decide | assumption), trivial⟩ ?_)
      | exact Lt32.h
      | (rw [instLnDown.h]; omega)
      | (refine Vc.mk ⟨Nat.mod_lt _ (by decide), Nat.mod_lt _ (by decide), Nat.mod_lt _ (by decide), by omega, trivial⟩ ?_)
      | (refine Vc.mk (by simp only [List.length_cons, List.length_nil, List.length_append, h1, h2, leB_len]; omega) ?_)
      | (simp only [List.length_cons, List.length_nil, List.length_append, h1, h2, leB_len]; omega)
      | (refine T.atB 0 ?_; have e3 : ([101, 120, 112, 97, 110, 100, 32, 51, 50, 45, 98, 121, 116, 101, 32, 107] : List UInt8) ++ key ++ [UInt8.ofNat (n % 256), UInt8.ofNat (n / 2 ^ 8 % 256), UInt8.ofNat (n / 2 ^ 16 % 256), UInt8.ofNat (n / 2 ^ 24)] ++ nonce = textE key nonce n := (by rw [le4_eq']; rfl); have htl := textE_len (n := n) h1 h2; simp only [e3]; refine T.lpa 0 [(7, str (textE key nonce n)), (8, _)] ((0, [.int .u32 0, .int .u32 0, .int .u32 0, .int .u32 0, .int .u32 0, .int .u32 0, .int .u32 0, .int .u32 0, .int .u32 0, .int .u32 0, .int .u32 0, .int .u32 0, .int .u32 0, .int .u32 0, .int .u32 0, .int .u32 0]) : Nat × List Value) (fun s => [(9, .int .i64 ((63 : Int) - (s.1 : Nat)))]) (fun s => [row 140 b s.2]) (fun s => s.1 ≤ 64 ∧ s.2 = (downE (textE key nonce n) s.1).map vU32) (fun s => 64 - s.1) ⟨Nat.zero_le _, down_0⟩ ?_; rintro ⟨i, ys⟩ g ⟨hI, hy⟩; dsimp only at hI hy ⊢; subst hy; simp only [List.cons_append, List.nil_append, appR])
      | (refine T.atB 1 ?_; obtain ⟨k, hk, hkk⟩ : ∃ k, k = 63 - i ∧ (63 : Int) - (i : Nat) = (k : Nat) := ⟨63 - i, rfl, by omega⟩; rw [hkk])
      | (refine TQ.atL ?_; refine TQ.rd (i + 1, _) rfl ⟨congrArg vI64 (by omega), rfl, rfl, trivial⟩ ⟨by omega, ?_⟩ (by dsimp only; omega) (Ent.imp (by repeat first | exact Imp.refl _ | (apply Imp.pull; focus ((repeat first | exact Del.head _ _ | apply Del.tail); done)) | apply Imp.drop)))
      | (dsimp only; rw [downE, hk])
      | refine T.pl 6 [13] (.p 0 (.p 1 (.p 2 (.p 3 (.p 4 (.p 7 (.p 8 (.p 9 (.p 10 (.d 5 (.p 6 (.p 11 (.p 12 (.n 13 .fin)))))))))))))) ?_
      | refine T.pl 23 [18] (.p 0 (.p 1 (.p 2 (.p 3 (.p 4 (.p 6 (.p 7 (.p 8 (.p 11 (.p 12 (.p 13 (.p 14 (.d 5 (.d 9 (.p 10 (.p 15 (.p 16 (.d 17 (.n 18 .fin))))))))))))))))))) ?_
      | refine And.intro (fun hc => ?_) (fun hc => ?_)
      | refine And.intro ?_ ?_
      | intro b
      | refine stp ?_
      | refine TQ.finC ?_
      | refine TQ.finC2 ?_
      | refine TQ.finC3 ?_
      | refine ⟨fun hc => ?_, fun hc => ?_⟩
      | refine Ei.f ?_
      | refine ⟨?_, ?_⟩
      | intro b
      | omega
      | (dsimp only; omega)
      | fail)

end Go.Proofs.YthbpjjlinebooaaDoor


namespace Go.Proofs.YthbpjjlinebooaaDoor
open Go Pw
set_option maxRecDepth 20000
set_option maxHeartbeats 4000000
set_option maxHeartbeats 1000000
instance {L : List Assn} {key nonce : List UInt8} {y : Int} {n : Nat} [hy : Nn y n] : FnR Tryd.prog 71 [str key, str nonce, .int .u32 y] L (fun kk => Vc (key.length = 32 ∧ nonce.length = 12 ∧ n < 4294967296) (kk (str (blockE key nonce n)) L)) := ⟨fun kk h => ⟨[], L, _, (by rw [hy.h]; exact refBlock_spec key nonce n h.l.1 h.l.2.1 h.l.2.2), .nil _, fun v L' hq => by rw [hq.1, hq.2]; exact h.r⟩⟩

end Go.Proofs.YthbpjjlinebooaaDoor

