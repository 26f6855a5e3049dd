/- Lemmas for the proofs of this seat: no statement of the seat is claimed here. -/
import Derived.Test.YthbpjjlinebooaaDoorKm
import Derived.Test.YthbpjjlinebooaaDoorKh
import Derived.Test.YthbpjjlinebooaaDoorKc
set_option linter.all false

namespace Go.Proofs.YthbpjjlinebooaaDoor
open Go Pw
set_option maxRecDepth 20000
set_option maxHeartbeats 4000000
set_option maxHeartbeats 1000000
attribute [local irreducible] turnP leB leE RTagE
theorem refturned_spec (key nonce tx : List UInt8) (h1 : key.length = 32) (h2 : nonce.length = 12) (hn : tx.length < 4294967296) :
    Sat Tryd.prog 51 [str key, str nonce, str tx] [] (fun u L' => u = str (turnedE key nonce tx) ∧ L' = []) := by
  all_goals
    refine Sat.enter Tryd.func51 rfl Tryd.ntmps51 rfl (fun c R => ?_)
    try simp only [List.cons_append, List.nil_append]
    repeat' (first
      | (refine T.atB 0 ?_; rename_i bb; refine T.lpa 0 [(0, _), (1, _), (7, _)] ((0, tx, []) : Nat × List UInt8 × List UInt8) (fun s => [(9, .int .i64 (s.1 : Nat)), (8, str s.2.2)]) (fun z => [sl 5 (0 + 1) (.slice (some ⟨bb, 0, none⟩) tx.length b) tx.length (z.2.1.map byteV)]) (fun z => z.1 ≤ tx.length ∧ z.2.1 = turnP key nonce tx z.1 ∧ (z.1 % 64 ≠ 0 → z.2.2 = blockE key nonce (1 + z.1 / 64))) (fun s => tx.length - s.1) ⟨Nat.zero_le _, turnP_0.symm, fun h => absurd rfl h⟩ ?_; rintro ⟨i, ys, kk⟩ g ⟨hI, hy, hk⟩; dsimp only at hI hy hk ⊢; have hyl : ys.length = tx.length := (by rw [hy]; exact turnP_len _ _ _ _); simp only [List.cons_append, List.nil_append, appR])
      | (refine Vc.mk ⟨h1, h2, by omega⟩ ?_)
      | (rw [blockE_len]; exact Nat.mod_lt _ (by decide))
      | (rw [hk (by omega), blockE_len]; exact Nat.mod_lt _ (by decide))
      | (refine TQ.atL ?_; refine TQ.rd ((i + 1, _, blockE key nonce (1 + i / 64)) : Nat × List UInt8 × List UInt8) rfl ⟨rfl, rfl, rfl, rfl, rfl, trivial⟩ ⟨by dsimp only; omega, ?_, ?_⟩ (by dsimp only; omega) (Ent.imp (by repeat first | exact Imp.refl _ | (apply Imp.pull; focus ((repeat first | exact Del.head _ _ | apply Del.tail); done)) | apply Imp.drop)); (dsimp only; rw [hy, turnP_get (by omega), if_neg (by omega)]; exact turnP_set (by omega)); (dsimp only; intro _; rw [show (i + 1) / 64 = i / 64 by omega]))
      | (have hk' := hk (by omega); refine TQ.atL ?_; refine TQ.rd ((i + 1, _, kk) : Nat × List UInt8 × List UInt8) rfl ⟨rfl, rfl, rfl, rfl, rfl, trivial⟩ ⟨by dsimp only; omega, ?_, ?_⟩ (by dsimp only; omega) (Ent.imp (by repeat first | exact Imp.refl _ | (apply Imp.pull; focus ((repeat first | exact Del.head _ _ | apply Del.tail); done)) | apply Imp.drop)); (dsimp only; rw [hy, turnP_get (by omega), if_neg (by omega), hk']; exact turnP_set (by omega)); (dsimp only; intro _; rw [show (i + 1) / 64 = i / 64 by omega]; exact hk'))
      | (have ei : i = tx.length := (by omega); subst ei; exact Fini.mk ⟨by rw [hy]; rfl, rfl⟩)
      | exact Nat.lt_of_le_of_lt (Nat.div_le_self _ _) (UInt8.toNat_lt _)
      | exact ((List.length_map ..).trans Ln.h).trans ((List.length_map ..).trans Ln.h).symm
      | exact lt_ln (by omega)
      | exact Lt64.h
      | exact (List.length_map ..).trans Ln.h
      | exact ((List.length_map ..).trans Ln.h).symm
      | exact trivial
      | refine T.pl 8 [12] (.p 0 (.p 1 (.p 2 (.p 3 (.p 6 (.p 7 (.p 8 (.p 9 (.d 4 (.d 5 (.p 10 (.d 11 (.n 12 .fin))))))))))))) ?_
      | refine And.intro (fun hc => ?_) (fun hc => ?_)
      | refine And.intro ?_ ?_
      | intro b
      | refine stp ?_
      | refine TQ.finC ?_
      | refine TQ.finC2 ?_
      | refine TQ.finC3 ?_
      | refine ⟨fun hc => ?_, fun hc => ?_⟩
      | refine Ei.f ?_
      | refine ⟨?_, ?_⟩
      | intro b
      | omega
      | (dsimp only; omega)
      | fail)
instance {L : List Assn} {key nonce tx : List UInt8} : FnR Tryd.prog 51 [str key, str nonce, str tx] L (fun kk => Vc (key.length = 32 ∧ nonce.length = 12 ∧ tx.length < 4294967296) (kk (str (turnedE key nonce tx)) L)) := ⟨fun kk h => ⟨[], L, _, refturned_spec key nonce tx h.l.1 h.l.2.1 h.l.2.2, .nil _, fun v L' hq => by rw [hq.1, hq.2]; exact h.r⟩⟩
instance {L : List Assn} {key tx : List UInt8} : FnR Tryd.prog 72 [str key, str tx] L (fun kk => Vc (tx.length < 4294967296) (kk ((asResult [str (RTagE key tx).1, .int .i64 ((RTagE key tx).2 : Nat)])) L)) := ⟨fun kk h => ⟨[], L, _, refTag_spec key tx h.l, .nil _, fun v L' hq => by rw [hq.1, hq.2]; exact h.r⟩⟩

def lenS (a c : Nat) : Nat → List UInt8
  | 0 => List.replicate 16 0
  | i + 1 => ((lenS a c i).set i (UInt8.ofNat (a / 2 ^ (8 * i)))).set (8 + i) (UInt8.ofNat (c / 2 ^ (8 * i)))
theorem lenS_len (a c : Nat) : ∀ i, (lenS a c i).length = 16
  | 0 => rfl
  | i + 1 => by rw [lenS, List.length_set, List.length_set]; exact lenS_len a c i
attribute [local semireducible] leB in
theorem lenS_8 (a c : Nat) : lenS a c 8 = leB a 8 ++ leB c 8 := rfl
theorem sealE_ref (key nonce ad cc : List UInt8) : sealE key nonce ad cc = (RTagE (List.take 32 (blockE key nonce 0)) (ad ++ List.replicate ((16 - ad.length % 16) % 16) 0 ++ cc ++ List.replicate ((16 - cc.length % 16) % 16) 0 ++ (leB ad.length 8 ++ leB cc.length 8))).1 := by
  rw [Tag_eq, sealE, gatherE, pad16, pad16, List.append_assoc _ (leB ad.length 8)]
attribute [local irreducible] lenS sealE
theorem reftag_spec (key nonce ad cc : List UInt8) (h1 : key.length = 32) (h2 : nonce.length = 12) (ha : ad.length < 262144) (hc : cc.length < 262144) :
    Sat Tryd.prog 52 [str key, str nonce, str ad, str cc] [] (fun u L' => u = str (sealE key nonce ad cc) ∧ L' = []) := by
  all_goals
    refine Sat.enter Tryd.func52 rfl Tryd.ntmps52 rfl (fun c R => ?_)
    try simp only [List.cons_append, List.nil_append]
    repeat' (first
      | exact Fini.mk ⟨by rw [sealE_ref]; rfl, rfl⟩
      | (refine T.atB 0 ?_; refine T.lpa 0 [(0, _), (1, _), (2, _), (3, _), (9, _)] ((0, List.replicate 16 0) : Nat × List UInt8) (fun s => [(10, .int .i64 (s.1 : Nat))]) (fun z => [sl 5 (0 + 1) (.slice (some ⟨b, 0, none⟩) 16 16) 16 (z.2.map byteV)]) (fun z => z.1 ≤ 8 ∧ z.2 = lenS ad.length cc.length z.1) (fun s => 8 - s.1) ⟨Nat.zero_le _, by rw [lenS]⟩ ?_; rintro ⟨i, ys⟩ g ⟨hI, hy⟩; dsimp only at hI hy ⊢; have hyl : ys.length = 16 := (by rw [hy]; exact lenS_len _ _ _); simp only [List.cons_append, List.nil_append, appR])
      | (refine TQ.atL ?_; refine TQ.rd ((i + 1, _) : Nat × List UInt8) rfl ⟨rfl, rfl, rfl, rfl, rfl, rfl, trivial⟩ ⟨by dsimp only; omega, ?_⟩ (by dsimp only; omega) (Ent.imp (by repeat first | exact Imp.refl _ | (apply Imp.pull; focus ((repeat first | exact Del.head _ _ | apply Del.tail); done)) | apply Imp.drop)); dsimp only; rw [lenS, hy])
      | (refine T.atR 7 ?_; have ei : i = 8 := (by omega); subst ei; rw [hy, lenS_8])
      | (refine Vc.mk ⟨h1, h2, by decide⟩ ?_)
      | (refine Vc.mk (by first | (simp only [true_and, and_true, List.length_append, List.length_map, List.length_replicate, leB_len, blockE_len, List.length_nil, List.nil_append, Nat.zero_add, List.length_take, List.length_drop, List.length_set]; done) | (simp only [true_and, and_true, List.length_append, List.length_map, List.length_replicate, leB_len, blockE_len, List.length_nil, List.nil_append, Nat.zero_add, List.length_take, List.length_drop, List.length_set]; omega)) ?_)
      | (exact Nat.lt_of_le_of_lt (Nat.div_le_self _ _) (by omega))
      | (simp only [true_and, and_true, List.length_append, List.length_map, List.length_replicate, leB_len, blockE_len, List.length_nil, List.nil_append, Nat.zero_add, List.length_take, List.length_drop, List.length_set]; omega)
      | exact Nat.lt_of_le_of_lt (Nat.div_le_self _ _) (UInt8.toNat_lt _)
      | exact ((List.length_map ..).trans Ln.h).trans ((List.length_map ..).trans Ln.h).symm
      | exact lt_ln (by omega)
      | exact Lt64.h
      | exact (List.length_map ..).trans Ln.h
      | exact ((List.length_map ..).trans Ln.h).symm
      | exact trivial
      | refine T.pk 7 [2, 10, 20, 26] (.p 0 (.p 1 (.p 4 (.p 5 (.p 6 (.p 7 (.p 8 (.p 9 (.p 13 (.p 15 (.p 16 (.p 17 (.p 18 (.p 19 (.p 23 (.g 24 (.b3 2 (.p 3 (.b2 10 (.g 11 (.p 12 (.p 14 (.n 20 (.g 21 (.p 22 (.p 25 (.n 26 (.p 27 (.p 28 (.p 29 (.p 30 (.p 31 .fin))))))))))))) 20 (.g 21 (.n 10 (.g 11 (.p 12 (.p 14 (.p 22 (.p 25 (.n 26 (.p 27 (.p 28 (.p 29 (.p 30 (.p 31 .fin))))))))))))))) 10 (.g 11 (.p 12 (.p 14 (.b2 2 (.p 3 (.n 20 (.g 21 (.p 22 (.p 25 (.n 26 (.p 27 (.p 28 (.p 29 (.p 30 (.p 31 .fin))))))))))) 20 (.g 21 (.p 22 (.p 25 (.n 2 (.p 3 (.n 26 (.p 27 (.p 28 (.p 29 (.p 30 (.p 31 .fin))))))))))))))) 20 (.g 21 (.b2 2 (.p 3 (.n 10 (.g 11 (.p 12 (.p 14 (.p 22 (.p 25 (.n 26 (.p 27 (.p 28 (.p 29 (.p 30 (.p 31 .fin))))))))))))) 10 (.g 11 (.p 12 (.p 14 (.p 22 (.p 25 (.n 2 (.p 3 (.n 26 (.p 27 (.p 28 (.p 29 (.p 30 (.p 31 .fin)))))))))))))))))))))))))))))))) ?_
      | refine And.intro (fun hc => ?_) (fun hc => ?_)
      | refine And.intro ?_ ?_
      | intro b
      | refine stk ?_
      | refine stp ?_
      | refine TQ.finC ?_
      | refine TQ.finC2 ?_
      | refine TQ.finC3 ?_
      | refine ⟨fun hc => ?_, fun hc => ?_⟩
      | refine Ei.f ?_
      | refine ⟨?_, ?_⟩
      | intro b
      | omega
      | (dsimp only; omega)
      | fail)

end Go.Proofs.YthbpjjlinebooaaDoor


namespace Go.Proofs.YthbpjjlinebooaaDoor
open Go Pw
set_option maxRecDepth 20000
set_option maxHeartbeats 4000000
set_option maxHeartbeats 1000000
attribute [local irreducible] turnP leB leE RTagE turnedE sealE
instance {L : List Assn} {key nonce ad cc : List UInt8} : FnR Tryd.prog 52 [str key, str nonce, str ad, str cc] L (fun kk => Vc (key.length = 32 ∧ nonce.length = 12 ∧ ad.length < 262144 ∧ cc.length < 262144) (kk (str (sealE key nonce ad cc)) L)) := ⟨fun kk h => ⟨[], L, _, reftag_spec key nonce ad cc h.l.1 h.l.2.1 h.l.2.2.1 h.l.2.2.2, .nil _, fun v L' hq => by rw [hq.1, hq.2]; exact h.r⟩⟩
theorem refSeal_spec (key nonce ad s : List UInt8) (ha : ad.length < 4294967296) (hs : s.length < 4294967296) :
    Sat Tryd.prog 34 [str key, str nonce, str ad, str s] [] (fun u L' => u = asResult [str (SealE key nonce ad s).1, .int .i64 ((SealE key nonce ad s).2 : Nat)] ∧ L' = []) := by
  all_goals
    refine Sat.enter Tryd.func34 rfl Tryd.ntmps34 rfl (fun c R => ?_)
    try simp only [List.cons_append, List.nil_append]
    repeat' (first
      | exact Fini.mk ⟨by rw [SealE, if_neg (by omega)]; rfl, rfl⟩
      | exact Fini.mk ⟨by rw [SealE, if_pos (by omega), if_pos (by omega)]; rfl, rfl⟩
      | exact Fini.mk ⟨by rw [SealE, if_pos (by omega), if_neg (by omega)]; rfl, rfl⟩
      | (first | refine Vc.mk ⟨by omega, by omega, by omega⟩ ?_ | refine Vc.mk ⟨by omega, by omega, by omega, by omega⟩ ?_ | refine Vc.mk ⟨by omega, by omega, by omega, by rw [turnedE_len]; omega⟩ ?_ | refine Vc.mk ⟨by omega, by omega, by omega, by rw [List.length_take]; omega⟩ ?_ | refine Vc.mk ⟨by omega, by omega, by rw [List.length_take]; omega⟩ ?_)
      | (rw [turnedE_len, sealE_len]; omega)
      | refine And.intro (fun hc => ?_) (fun hc => ?_)
      | refine And.intro ?_ ?_
      | intro b
      | refine stp ?_
      | refine TQ.finC ?_
      | refine TQ.finC2 ?_
      | refine TQ.finC3 ?_
      | refine ⟨fun hc => ?_, fun hc => ?_⟩
      | refine Ei.f ?_
      | refine ⟨?_, ?_⟩
      | intro b
      | omega
      | (dsimp only; omega)
      | fail)
theorem refOpen_long (key nonce ad s : List UInt8) (ha : ad.length < 4294967296) (hs : s.length < 4294967296) (h16 : 16 ≤ s.length) :
    Sat Tryd.prog 45 [str key, str nonce, str ad, str s] [] (fun u L' => u = asResult [str (OpenE key nonce ad s).1, .int .i64 ((OpenE key nonce ad s).2 : Nat)] ∧ L' = []) := by
  all_goals
    refine Sat.enter Tryd.func45 rfl Tryd.ntmps45 rfl (fun c R => ?_)
    try simp only [List.cons_append, List.nil_append]
    repeat' (first
      | exact Fini.mk ⟨by rw [OpenE, if_neg (by omega)]; rfl, rfl⟩
      | exact Fini.mk ⟨by rw [OpenE, if_pos (by omega), if_pos (by omega)]; rfl, rfl⟩
      | exact Fini.mk ⟨by rw [OpenE, if_pos (by omega), if_neg (by omega), if_pos (.inl (by omega))]; rfl, rfl⟩
      | exact Fini.mk ⟨by rw [OpenE, if_pos (by omega), if_neg (by omega), if_pos (.inr hc)]; rfl, rfl⟩
      | exact Fini.mk ⟨by rw [OpenE, if_pos (by omega), if_neg (by omega), if_neg (fun h => h.elim (fun h => by omega) hc)]; rfl, rfl⟩
      | (first | refine Vc.mk ⟨by omega, by omega, by omega⟩ ?_ | refine Vc.mk ⟨by omega, by omega, by omega, by omega⟩ ?_ | refine Vc.mk ⟨by omega, by omega, by omega, by rw [turnedE_len]; omega⟩ ?_ | refine Vc.mk ⟨by omega, by omega, by omega, by rw [List.length_take]; omega⟩ ?_ | refine Vc.mk ⟨by omega, by omega, by rw [List.length_take]; omega⟩ ?_)
      | (rw [List.length_take]; omega)
      | (have hlim : (IntKind.i64.lim : Int) = 9223372036854775808 := rfl; omega)
      | refine T.pl 6 [9] (.p 0 (.p 1 (.p 2 (.p 3 (.p 4 (.p 5 (.p 6 (.p 7 (.p 8 (.p 10 (.p 11 (.p 12 (.n 9 (.p 13 (.p 14 .fin))))))))))))))) ?_
      | refine And.intro (fun hc => ?_) (fun hc => ?_)
      | refine And.intro ?_ ?_
      | intro b
      | refine stp ?_
      | refine TQ.finC ?_
      | refine TQ.finC2 ?_
      | refine TQ.finC3 ?_
      | refine ⟨fun hc => ?_, fun hc => ?_⟩
      | refine Ei.f ?_
      | refine ⟨?_, ?_⟩
      | intro b
      | omega
      | (dsimp only; omega)
      | fail)
theorem refOpen_short (key nonce ad s : List UInt8) (ha : ad.length < 4294967296) (hs : s.length < 4294967296) (h16 : s.length < 16) :
    Sat Tryd.prog 45 [str key, str nonce, str ad, str s] [] (fun u L' => u = asResult [str (OpenE key nonce ad s).1, .int .i64 ((OpenE key nonce ad s).2 : Nat)] ∧ L' = []) := by
  all_goals
    refine Sat.enter Tryd.func45 rfl Tryd.ntmps45 rfl (fun c R => ?_)
    try simp only [List.cons_append, List.nil_append]
    repeat' (first
      | exact Fini.mk ⟨by rw [OpenE, if_neg (by omega)]; rfl, rfl⟩
      | exact Fini.mk ⟨by rw [OpenE, if_pos (by omega), if_pos (by omega)]; rfl, rfl⟩
      | exact Fini.mk ⟨by rw [OpenE, if_pos (by omega), if_neg (by omega), if_pos (.inl (by omega))]; rfl, rfl⟩
      | exact Fini.mk ⟨by rw [OpenE, if_pos (by omega), if_neg (by omega), if_pos (.inr hc)]; rfl, rfl⟩
      | exact Fini.mk ⟨by rw [OpenE, if_pos (by omega), if_neg (by omega), if_neg (fun h => h.elim (fun h => by omega) hc)]; rfl, rfl⟩
      | (first | refine Vc.mk ⟨by omega, by omega, by omega⟩ ?_ | refine Vc.mk ⟨by omega, by omega, by omega, by omega⟩ ?_ | refine Vc.mk ⟨by omega, by omega, by omega, by rw [turnedE_len]; omega⟩ ?_ | refine Vc.mk ⟨by omega, by omega, by omega, by rw [List.length_take]; omega⟩ ?_ | refine Vc.mk ⟨by omega, by omega, by rw [List.length_take]; omega⟩ ?_)
      | (rw [List.length_take]; omega)
      | (have hlim : (IntKind.i64.lim : Int) = 9223372036854775808 := rfl; omega)
      | refine T.pl 6 [9] (.p 0 (.p 1 (.p 2 (.p 3 (.p 4 (.p 5 (.p 6 (.p 7 (.p 8 (.p 10 (.p 11 (.p 12 (.n 9 (.p 13 (.p 14 .fin))))))))))))))) ?_
      | refine And.intro (fun hc => ?_) (fun hc => ?_)
      | refine And.intro ?_ ?_
      | intro b
      | refine stp ?_
      | refine TQ.finC ?_
      | refine TQ.finC2 ?_
      | refine TQ.finC3 ?_
      | refine ⟨fun hc => ?_, fun hc => ?_⟩
      | refine Ei.f ?_
      | refine ⟨?_, ?_⟩
      | intro b
      | omega
      | (dsimp only; omega)
      | fail)

end Go.Proofs.YthbpjjlinebooaaDoor

