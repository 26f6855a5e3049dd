/- Lemmas for the proofs of this seat: no statement of the seat is claimed here. -/
import Derived.Test.YthbpjjlinebooaaDoorRf
set_option linter.all false

namespace Go.Proofs.YthbpjjlinebooaaDoor
open Go Pw
set_option maxRecDepth 20000
set_option maxHeartbeats 4000000
set_option synthInstance.maxHeartbeats 400000
set_option synthInstance.maxSize 4000
set_option maxHeartbeats 2000000

instance (priority := 2000) {L : List Assn} {key iv ad s : List UInt8} {ct : Nat} : FnR Tryd.prog 45 [str key, str (nonE iv ct), str ad, str s] L (fun kk => Vc (ad = begE 23 s.length ∧ s.length < 4294967296) (kk (asResult [str (openE key iv ct s).1, .int .i64 ((openE key iv ct s).2 : Nat)]) L)) :=
  ⟨fun kk h => ⟨[], L, _, refOpen_spec key (nonE iv ct) ad s (by rw [h.l.1, begE_len]; omega) h.l.2, .nil _, fun v L' hq => by have h2 := h.r; unfold openE at h2; rw [hq.1, hq.2, h.l.1]; exact h2⟩⟩
instance (priority := 2000) {L R : List Assn} {key iv s : List UInt8} {ct : Nat} [hd : DelC quA L R] : FnR Tryd.prog 42 [str key, str (nonE iv ct), str (begE 23 s.length), str s] L (fun q => Vc (s.length < 4294967296) (q (asResult [str (openE key iv ct s).1, .int .i64 ((openE key iv ct s).2 : Nat)]) (quA :: R))) :=
  ⟨fun q h => ⟨_, R, _, Open_spec key (nonE iv ct) (begE 23 s.length) s (by rw [begE_len]; omega) h.l, Pick.of1 hd.h, fun v L' hq => by have h2 := h.r; unfold openE at h2; rw [hq.1, hq.2]; exact h2⟩⟩
attribute [local irreducible] openE openH innE trR nonE begE OpenE
theorem ropen_spec (p ct mo : Nat) (key iv s : List UInt8) (hi : iv.length = 12) (hct : ct ≤ 4294967296) (hmo : mo ≤ 4294967296) (hs : s.length < 4611686018427387904) :
    Sat Tryd.prog 23 [.pointer (some ⟨p, 0, none⟩), str s] [Pw.row 70 p [str key, str iv, .int .u64 (ct : Nat), .int .u64 (mo : Nat)]] (fun u L' => u = asResult [.agg (recV (openH key iv ct mo s).1).toArray, .int .i64 ((openH key iv ct mo s).2.1 : Nat)] ∧ L' = [Pw.row 70 p [str key, str iv, .int .u64 ((openH key iv ct mo s).2.2 : Nat), .int .u64 (mo : Nat)]]) := by
  all_goals
    refine Sat.enter Tryd.func23 rfl Tryd.ntmps23 rfl (fun c R => ?_)
    try simp only [List.cons_append, List.nil_append]
    repeat' (first
      | (refine T.cutR 6 (fun _ : Unit => [(0, .pointer (some ⟨p, 0, none⟩)), (4, .pointer (some ⟨b, 0, none⟩)), (7, str (openE key iv ct s).1), (8, .int .i64 ((openE key iv ct s).2 : Nat))]) (fun _ => Pw.row 70 p [str key, str iv, .int .u64 (ct : Nat), .int .u64 (mo : Nat)] :: Pw.row 44 b [.int .u8 0, .string ⟨#[]⟩] :: R) (fun _ => True) ?_ (fun _ g _ => ?_))
      | (exact TQ.cn () rfl ⟨rfl, rfl, rfl, rfl, trivial⟩ trivial (Ent.imp (by repeat first | exact Imp.refl _ | (apply Imp.pull; focus ((repeat first | exact Del.head _ _ | apply Del.tail); done)) | apply Imp.drop)))
      | (refine T.atB 0 ?_; refine T.lpa 0 [(0, _), (4, _), (7, _)] ((openE key iv ct s).1.length : Nat) (fun k => [(9, .int .i64 (k : Nat))]) (fun k => []) (fun k => k ≤ (openE key iv ct s).1.length ∧ trR ((openE key iv ct s).1.take k) = trR (openE key iv ct s).1) (fun k => k) ⟨Nat.le_refl _, by rw [List.take_length]⟩ ?_; rintro k g ⟨hI, hT⟩; (try dsimp only at hI hT ⊢); simp only [List.cons_append, List.nil_append, appR])
      | (refine TQ.atL ?_; refine TQ.rd ((k - 1) : Nat) rfl ⟨rfl, rfl, rfl, rfl, trivial⟩ ⟨by omega, by rw [← hT]; exact (trR_step (by omega) (by omega) (by omega)).symm⟩ (by omega) (Ent.imp (by repeat first | exact Imp.refl _ | (apply Imp.pull; focus ((repeat first | exact Del.head _ _ | apply Del.tail); done)) | apply Imp.drop)))
      | (refine Vc.mk ⟨by decide, by decide, by decide, by omega, by omega, trivial⟩ ?_)
      | (refine Vc.mk ⟨by have h : s.length / 2 ^ 8 % 256 = s.length / 2 ^ 8 := Nat.mod_eq_of_lt (by omega); unfold begE; rw [h] <;> rfl, by omega⟩ ?_)
      | (refine Vc.mk ⟨hi, by omega⟩ ?_)
      | (have := (gt (openE key iv ct s).1 (k - 1)).toNat_lt; omega)
      | (exact Fini.of ⟨by rw [openH_s (by omega)]; rfl, by rw [openH_s (by omega)]⟩ (by repeat first | exact Imp.refl _ | (apply Imp.pull; focus ((repeat first | exact Del.head _ _ | apply Del.tail); done)) | apply Imp.drop))
      | (exact Fini.of ⟨by rw [openH_o (by omega) (by omega)]; rfl, by rw [openH_o (by omega) (by omega)]⟩ (by repeat first | exact Imp.refl _ | (apply Imp.pull; focus ((repeat first | exact Del.head _ _ | apply Del.tail); done)) | apply Imp.drop))
      | (exact Fini.of ⟨by rw [openH_m (by omega) (by omega) (by omega)]; rfl, by rw [openH_m (by omega) (by omega) (by omega)]⟩ (by repeat first | exact Imp.refl _ | (apply Imp.pull; focus ((repeat first | exact Del.head _ _ | apply Del.tail); done)) | apply Imp.drop))
      | (exact Fini.of ⟨by rw [openH_v (by omega) (by omega) (by omega) (by omega)]; rfl, by rw [openH_v (by omega) (by omega) (by omega) (by omega)]⟩ (by repeat first | exact Imp.refl _ | (apply Imp.pull; focus ((repeat first | exact Del.head _ _ | apply Del.tail); done)) | apply Imp.drop))
      | (exact Fini.of ⟨by rw [openH_k (by omega) (by omega) (by omega) (by omega) (hT.symm.trans (trR_stop (by omega) (by omega))), innE_e rfl (by omega) (by omega)]; rfl, by rw [openH_k (by omega) (by omega) (by omega) (by omega) (hT.symm.trans (trR_stop (by omega) (by omega)))]⟩ (by repeat first | exact Imp.refl _ | (apply Imp.pull; focus ((repeat first | exact Del.head _ _ | apply Del.tail); done)) | apply Imp.drop))
      | (exact Fini.of ⟨by rw [openH_k (by omega) (by omega) (by omega) (by omega) (hT.symm.trans (trR_stop (by omega) (by omega))), innE_g rfl (by omega) (by omega)]; rfl, by rw [openH_k (by omega) (by omega) (by omega) (by omega) (hT.symm.trans (trR_stop (by omega) (by omega)))]⟩ (by repeat first | exact Imp.refl _ | (apply Imp.pull; focus ((repeat first | exact Del.head _ _ | apply Del.tail); done)) | apply Imp.drop))
      | refine T.pl 1 [] (.p 0 (.p 1 (.p 4 (.p 5 (.d 2 (.d 3 (.d 6 (.d 7 (.p 8 .fin))))))))) ?_
      | refine T.pk 6 [6, 12, 15] (.p 0 (.p 1 (.p 5 (.p 7 (.p 8 (.p 9 (.p 10 (.p 11 (.p 14 (.p 2 (.p 3 (.b3 4 (.b2 6 (.n 12 (.g 13 (.n 15 (.p 16 (.p 17 (.p 18 (.p 19 (.p 20 .fin)))))))) 12 (.g 13 (.n 6 (.n 15 (.p 16 (.p 17 (.p 18 (.p 19 (.p 20 .fin))))))))) 6 (.b2 4 (.n 12 (.g 13 (.n 15 (.p 16 (.p 17 (.p 18 (.p 19 (.p 20 .fin)))))))) 12 (.g 13 (.d 4 (.n 15 (.p 16 (.p 17 (.p 18 (.p 19 (.p 20 .fin))))))))) 12 (.g 13 (.b2 4 (.n 6 (.n 15 (.p 16 (.p 17 (.p 18 (.p 19 (.p 20 .fin))))))) 6 (.d 4 (.n 15 (.p 16 (.p 17 (.p 18 (.p 19 (.p 20 .fin))))))))))))))))))))) ?_
      | refine T.pl 17 [9] (.p 0 (.p 1 (.p 2 (.p 3 (.p 4 (.p 5 (.p 6 (.p 7 (.p 8 (.n 9 (.p 10 .fin))))))))))) ?_
      | refine And.intro (fun hc => ?_) (fun hc => ?_)
      | refine And.intro ?_ ?_
      | intro b
      | refine stk ?_
      | refine stp ?_
      | refine TQ.finC ?_
      | refine TQ.finC2 ?_
      | refine TQ.finC3 ?_
      | refine ⟨fun hc => ?_, fun hc => ?_⟩
      | refine Ei.f ?_
      | refine ⟨?_, ?_⟩
      | intro b
      | omega
      | (dsimp only; omega)
      | fail)

end Go.Proofs.YthbpjjlinebooaaDoor


namespace Go.Proofs.YthbpjjlinebooaaDoor
open Go Pw
set_option maxRecDepth 20000
set_option maxHeartbeats 4000000
set_option synthInstance.maxHeartbeats 400000
set_option synthInstance.maxSize 4000
set_option maxHeartbeats 2000000
attribute [local irreducible] openE openH innE trR nonE begE OpenE
theorem open_spec (p ct mo : Nat) (key : List UInt8) (i0 i1 i2 i3 i4 i5 i6 i7 i8 i9 i10 i11 : UInt8) (s : List UInt8) (hct : ct ≤ 4294967296) (hmo : mo ≤ 4294967296) (hm0 : 0 < mo) (hs : s.length < 4611686018427387904) :
    Sat Tryd.prog 22 [.pointer (some ⟨p, 0, none⟩), str s] [Pw.row 87 p [str key, byteV i0, byteV i1, byteV i2, byteV i3, byteV i4, byteV i5, byteV i6, byteV i7, byteV i8, byteV i9, byteV i10, byteV i11, .int .u64 (ct : Nat), .int .u64 (mo : Nat)], quA] (fun u L' => u = asResult [.agg (recV (openH key [i0, i1, i2, i3, i4, i5, i6, i7, i8, i9, i10, i11] ct mo s).1).toArray, .int .i64 ((openH key [i0, i1, i2, i3, i4, i5, i6, i7, i8, i9, i10, i11] ct mo s).2.1 : Nat)] ∧ L' = [Pw.row 87 p [str key, byteV i0, byteV i1, byteV i2, byteV i3, byteV i4, byteV i5, byteV i6, byteV i7, byteV i8, byteV i9, byteV i10, byteV i11, .int .u64 ((openH key [i0, i1, i2, i3, i4, i5, i6, i7, i8, i9, i10, i11] ct mo s).2.2 : Nat), .int .u64 (mo : Nat)], quA]) := by
  all_goals
    refine Sat.enter Tryd.func22 rfl Tryd.ntmps22 rfl (fun c R => ?_)
    try simp only [List.cons_append, List.nil_append]
    repeat' (first
      | (refine T.cutR 7 (fun _ : Unit => [(0, .pointer (some ⟨p, 0, none⟩)), (4, .pointer (some ⟨b, 0, none⟩)), (6, str (openE key [i0, i1, i2, i3, i4, i5, i6, i7, i8, i9, i10, i11] ct s).1), (7, .int .i64 ((openE key [i0, i1, i2, i3, i4, i5, i6, i7, i8, i9, i10, i11] ct s).2 : Nat))]) (fun _ => Pw.row 87 p [str key, byteV i0, byteV i1, byteV i2, byteV i3, byteV i4, byteV i5, byteV i6, byteV i7, byteV i8, byteV i9, byteV i10, byteV i11, .int .u64 (ct : Nat), .int .u64 (mo : Nat)] :: quA :: Pw.row 44 b [.int .u8 0, .string ⟨#[]⟩] :: R) (fun _ => True) ?_ (fun _ g _ => ?_))
      | (exact TQ.cn () rfl ⟨rfl, rfl, rfl, rfl, trivial⟩ trivial (Ent.imp (by repeat first | exact Imp.refl _ | (apply Imp.pull; focus ((repeat first | exact Del.head _ _ | apply Del.tail); done)) | apply Imp.drop)))
      | (refine T.atR 14 ?_; have htl := trR_len (openE key [i0, i1, i2, i3, i4, i5, i6, i7, i8, i9, i10, i11] ct s).1; have hgl := (gt (trR (openE key [i0, i1, i2, i3, i4, i5, i6, i7, i8, i9, i10, i11] ct s).1) ((trR (openE key [i0, i1, i2, i3, i4, i5, i6, i7, i8, i9, i10, i11] ct s).1).length - 1)).toNat_lt; rcases Nat.eq_zero_or_pos (trR (openE key [i0, i1, i2, i3, i4, i5, i6, i7, i8, i9, i10, i11] ct s).1).length with hz | hz <;> refine Hold.h ?_)
      | (refine Vc.mk (by omega) ?_)
      | (exact Fini.of ⟨by rw [openH_s (by omega)]; rfl, by rw [openH_s (by omega)]⟩ (by repeat first | exact Imp.refl _ | (apply Imp.pull; focus ((repeat first | exact Del.head _ _ | apply Del.tail); done)) | apply Imp.drop))
      | (exact Fini.of ⟨by rw [openH_o (by omega) (by omega)]; rfl, by rw [openH_o (by omega) (by omega)]⟩ (by repeat first | exact Imp.refl _ | (apply Imp.pull; focus ((repeat first | exact Del.head _ _ | apply Del.tail); done)) | apply Imp.drop))
      | (exact Fini.of ⟨by rw [openH_m (by omega) (by omega) (by omega)]; rfl, by rw [openH_m (by omega) (by omega) (by omega)]⟩ (by repeat first | exact Imp.refl _ | (apply Imp.pull; focus ((repeat first | exact Del.head _ _ | apply Del.tail); done)) | apply Imp.drop))
      | (exact Fini.of ⟨by rw [openH_v (by omega) (by omega) (by omega) (by omega)]; rfl, by rw [openH_v (by omega) (by omega) (by omega) (by omega)]⟩ (by repeat first | exact Imp.refl _ | (apply Imp.pull; focus ((repeat first | exact Del.head _ _ | apply Del.tail); done)) | apply Imp.drop))
      | (exact Fini.of ⟨by (try simp only [kindP] at *); rw [openH_k (by omega) (by omega) (by omega) (by omega) rfl, innE_e (s := trR (openE key [i0, i1, i2, i3, i4, i5, i6, i7, i8, i9, i10, i11] ct s).1) (k := (trR (openE key [i0, i1, i2, i3, i4, i5, i6, i7, i8, i9, i10, i11] ct s).1).length) (List.take_length).symm (Nat.le_refl _) (by omega)]; rfl, by (try simp only [kindP] at *); rw [openH_k (by omega) (by omega) (by omega) (by omega) rfl]⟩ (by repeat first | exact Imp.refl _ | (apply Imp.pull; focus ((repeat first | exact Del.head _ _ | apply Del.tail); done)) | apply Imp.drop))
      | (exact Fini.of ⟨by (try simp only [kindP] at *); rw [openH_k (by omega) (by omega) (by omega) (by omega) rfl, innE_g (s := trR (openE key [i0, i1, i2, i3, i4, i5, i6, i7, i8, i9, i10, i11] ct s).1) (k := (trR (openE key [i0, i1, i2, i3, i4, i5, i6, i7, i8, i9, i10, i11] ct s).1).length) (List.take_length).symm (Nat.le_refl _) (by omega)]; rfl, by (try simp only [kindP] at *); rw [openH_k (by omega) (by omega) (by omega) (by omega) rfl]⟩ (by repeat first | exact Imp.refl _ | (apply Imp.pull; focus ((repeat first | exact Del.head _ _ | apply Del.tail); done)) | apply Imp.drop))
      | refine T.pl 3 [] (.p 0 (.p 1 (.p 4 (.p 5 (.d 2 (.d 3 (.d 6 (.d 7 (.p 8 (.p 9 .fin)))))))))) ?_
      | refine T.pk 7 [5, 8, 10] (.p 0 (.p 1 (.p 4 (.p 6 (.p 7 (.p 9 (.p 2 (.b2 3 (.n 5 (.n 8 (.n 10 (.p 11 (.p 12 (.p 13 (.p 14 (.p 15 .fin)))))))) 5 (.b2 3 (.n 8 (.n 10 (.p 11 (.p 12 (.p 13 (.p 14 (.p 15 .fin))))))) 8 (.d 3 (.n 10 (.p 11 (.p 12 (.p 13 (.p 14 (.p 15 .fin)))))))))))))))) ?_
      | refine T.pl 17 [7] (.p 0 (.p 1 (.p 2 (.p 3 (.p 4 (.p 5 (.p 6 (.n 7 (.p 8 .fin))))))))) ?_
      | refine And.intro (fun hc => ?_) (fun hc => ?_)
      | refine And.intro ?_ ?_
      | intro b
      | refine stk ?_
      | refine stp ?_
      | refine TQ.finC ?_
      | refine TQ.finC2 ?_
      | refine TQ.finC3 ?_
      | refine ⟨fun hc => ?_, fun hc => ?_⟩
      | refine Ei.f ?_
      | refine ⟨?_, ?_⟩
      | intro b
      | omega
      | (dsimp only; omega)
      | (simp only [show IntKind.i64.lim = 9223372036854775808 from rfl]; omega)
      | exact absurd (by omega) hc
      |  fail)
    all_goals try refine Hold.mk ?_
    repeat' (first
      | (refine Vc.mk (by omega) ?_)
      | (exact Fini.of ⟨by rw [openH_s (by omega)]; rfl, by rw [openH_s (by omega)]⟩ (by repeat first | exact Imp.refl _ | (apply Imp.pull; focus ((repeat first | exact Del.head _ _ | apply Del.tail); done)) | apply Imp.drop))
      | (exact Fini.of ⟨by rw [openH_o (by omega) (by omega)]; rfl, by rw [openH_o (by omega) (by omega)]⟩ (by repeat first | exact Imp.refl _ | (apply Imp.pull; focus ((repeat first | exact Del.head _ _ | apply Del.tail); done)) | apply Imp.drop))
      | (exact Fini.of ⟨by rw [openH_m (by omega) (by omega) (by omega)]; rfl, by rw [openH_m (by omega) (by omega) (by omega)]⟩ (by repeat first | exact Imp.refl _ | (apply Imp.pull; focus ((repeat first | exact Del.head _ _ | apply Del.tail); done)) | apply Imp.drop))
      | (exact Fini.of ⟨by rw [openH_v (by omega) (by omega) (by omega) (by omega)]; rfl, by rw [openH_v (by omega) (by omega) (by omega) (by omega)]⟩ (by repeat first | exact Imp.refl _ | (apply Imp.pull; focus ((repeat first | exact Del.head _ _ | apply Del.tail); done)) | apply Imp.drop))
      | (exact Fini.of ⟨by (try simp only [kindP] at *); rw [openH_k (by omega) (by omega) (by omega) (by omega) rfl, innE_e (s := trR (openE key [i0, i1, i2, i3, i4, i5, i6, i7, i8, i9, i10, i11] ct s).1) (k := (trR (openE key [i0, i1, i2, i3, i4, i5, i6, i7, i8, i9, i10, i11] ct s).1).length) (List.take_length).symm (Nat.le_refl _) (by omega)]; rfl, by (try simp only [kindP] at *); rw [openH_k (by omega) (by omega) (by omega) (by omega) rfl]⟩ (by repeat first | exact Imp.refl _ | (apply Imp.pull; focus ((repeat first | exact Del.head _ _ | apply Del.tail); done)) | apply Imp.drop))
      | (exact Fini.of ⟨by (try simp only [kindP] at *); rw [openH_k (by omega) (by omega) (by omega) (by omega) rfl, innE_g (s := trR (openE key [i0, i1, i2, i3, i4, i5, i6, i7, i8, i9, i10, i11] ct s).1) (k := (trR (openE key [i0, i1, i2, i3, i4, i5, i6, i7, i8, i9, i10, i11] ct s).1).length) (List.take_length).symm (Nat.le_refl _) (by omega)]; rfl, by (try simp only [kindP] at *); rw [openH_k (by omega) (by omega) (by omega) (by omega) rfl]⟩ (by repeat first | exact Imp.refl _ | (apply Imp.pull; focus ((repeat first | exact Del.head _ _ | apply Del.tail); done)) | apply Imp.drop))
      | (refine T.atR 17 ?_; exfalso; omega)
      | refine T.pl 3 [] (.p 0 (.p 1 (.p 4 (.p 5 (.d 2 (.d 3 (.d 6 (.d 7 (.p 8 (.p 9 .fin)))))))))) ?_
      | refine T.pk 7 [5, 8, 10] (.p 0 (.p 1 (.p 4 (.p 6 (.p 7 (.p 9 (.p 2 (.b2 3 (.n 5 (.n 8 (.n 10 (.p 11 (.p 12 (.p 13 (.p 14 (.p 15 .fin)))))))) 5 (.b2 3 (.n 8 (.n 10 (.p 11 (.p 12 (.p 13 (.p 14 (.p 15 .fin))))))) 8 (.d 3 (.n 10 (.p 11 (.p 12 (.p 13 (.p 14 (.p 15 .fin)))))))))))))))) ?_
      | refine T.pl 17 [7] (.p 0 (.p 1 (.p 2 (.p 3 (.p 4 (.p 5 (.p 6 (.n 7 (.p 8 .fin))))))))) ?_
      | refine And.intro (fun hc => ?_) (fun hc => ?_)
      | refine And.intro ?_ ?_
      | intro b
      | refine stk ?_
      | refine stp ?_
      | refine TQ.finC ?_
      | refine TQ.finC2 ?_
      | refine TQ.finC3 ?_
      | refine ⟨fun hc => ?_, fun hc => ?_⟩
      | refine Ei.f ?_
      | refine ⟨?_, ?_⟩
      | intro b
      | omega
      | (dsimp only; omega)
      | (simp only [show IntKind.i64.lim = 9223372036854775808 from rfl]; omega)
      | exact absurd (by omega) hc
      | fail)

end Go.Proofs.YthbpjjlinebooaaDoor

