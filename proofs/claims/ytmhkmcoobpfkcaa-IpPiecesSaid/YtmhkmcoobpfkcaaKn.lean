/- Lemmas for the proofs of this seat: no statement of the seat is claimed here. -/
import Derived.Test.YtmhkmcoobpfkcaaKm
set_option linter.all false

namespace Go.Proofs.Ytmhkmcoobpfkcaa
open Go Pw
set_option maxRecDepth 20000
set_option maxHeartbeats 4000000
set_option synthInstance.maxHeartbeats 400000
set_option synthInstance.maxSize 4000
set_option maxHeartbeats 16000000
theorem take14 (r most life : Nat) (S : List PSet) (p : Pkt) (now : Nat) (hS : SsOk S) (hp : p.ok) (hl : life ≤ 4294967296) (hm : most < 1000) :
    Sat Try.prog 14 [.pointer (some ⟨r, 0, none⟩), .agg (pktV p).toArray, .int .u64 now] [pcA r most life S] (fun u L' => u = asResult [.agg (pktV (takeE most life S p now).2.1).toArray, .bool (takeE most life S p now).2.2.1, .int .i64 ((takeE most life S p now).2.2.2 : Nat)] ∧ L' = [pcA r most life (takeE most life S p now).1]) := by
  refine Sat.openA1 ?_
  rintro ⟨m, X⟩ hX
  dsimp only [pcL] at *
  subst hX
  have hkd : (X.map fun y => y.2.key).Nodup := by have := hS.nd; rw [List.map_map] at this; exact this
  have hp6 := hp.off
  have hp7 := hp.data
  all_goals
    refine Sat.enter Try.func14 rfl Try.ntmps14 rfl (fun c R => ?_)
    try simp only [List.cons_append, List.nil_append]
    repeat' (first
      | (rw [tk_late (by omega)]; exact Fini.of ⟨rfl, rfl⟩ (Imp.pc rfl rfl (by repeat first | exact Imp.refl _ | (apply Imp.pull; focus ((repeat first | exact Del.head _ _ | apply Del.tail); done)) | apply Imp.drop)))
      | (refine T.atB 1 ?_; rename_i b4 b6 i_ es_ cl_ hes; have hok := b; clear b; refine T.famnd (X := X) (by repeat first | exact Del.head _ _ | apply Del.tail) (fun hnd => ?_); refine T.ent (Ent.imp (Imp.rng0 (X := X) (now := now))) ?_; refine T.lpa 1 [(0, _), (2, _), (4, _), (6, _), (29, _)] ([] : List Nat) (fun _ => []) (fun z => [rngG keyV pv i_ (m, fltZ X now es_ z, cl_, z), row 38 b4 (pktV p), row 38 b6 [.int .u32 0, .int .u32 0, .int .u8 0, .int .u8 0, .int .u16 0, .bool false, .bool false, .int .u16 0, .string { data := #[] }], row 65 r [.int .i64 most, .int .u64 life, .map (some m)], famA X]) (fun _ => True) (fun z => (es_.filter fun x => decide (x.2.2 ∉ z)).length) trivial ?_; intro z g _; simp only [List.cons_append, List.nil_append, appR])
      | (refine T.atR 7 ?_; have hz_ := b; clear b; have he_ := b; clear b; obtain ⟨e_, he0⟩ : ∃ x, x = hc := ⟨_, rfl⟩; subst he0; have hee := flt_mem he_; have hek := keep_iff (now := now) hes hnd hkd hee; have hem := es_mem hes hee)
      | (refine TQ.atL ?_; rw [flt_keep (z := z) hok hee (by rw [hek]; exact decide_eq_true (by omega))]; refine TQ.rda (z ++ [e_.2.2]) trivial (flt_mu hee hz_))
      | (refine TQ.atL ?_; rw [flt_del hok hee (by rw [hek]; exact decide_eq_false (by omega))]; refine TQ.rda (z ++ [e_.2.2]) trivial (flt_mu hee hz_))
      | (refine T.atSR 10 ?_; have hfin := flt_fin (now := now) (z := z) hes hkd (by assumption); refine T.ent (Ent.imp Imp.rng_end) ?_; rw [hfin]; refine T.ent (Ent.imp (Imp.famsub (X := X) (Y := X.filter fun y => decide (now < y.2.til)) (by repeat first | exact Del.head _ _ | apply Del.tail) List.filter_sublist)) ?_; have hSY := hS.exp (now := now); have hEY := exp_map X now; rw [hEY] at hSY; obtain ⟨Y, hY⟩ : ∃ Y, Y = X.filter fun y => decide (now < y.2.til) := ⟨_, rfl⟩; rw [← hY] at hSY hEY; rw [← hY]; clear hfin; refine T.cutR 10 (fun _ : Unit => [(0, .pointer (some ⟨r, 0, none⟩)), (2, .int .u64 now), (4, .pointer (some ⟨b4, 0, none⟩)), (6, .pointer (some ⟨b6, 0, none⟩)), (53, .bool (decide (p.more = false ∧ p.off = 0)))]) (fun _ => mapG keyV pv m (Y.map kpE) :: row 38 b4 (pktV p) :: row 38 b6 [.int .u32 0, .int .u32 0, .int .u8 0, .int .u8 0, .int .u16 0, .bool false, .bool false, .int .u16 0, .string { data := #[] }] :: row 65 r [.int .i64 most, .int .u64 life, .map (some m)] :: famA Y :: R) (fun _ => True) ?_ (fun _ g _ => ?_))
      | (refine TQ.atC ?_; refine TQ.cn (() : Unit) rfl ⟨rfl, rfl, rfl, rfl, eqB (by first | (have h3 := ‹(!p.more) = true›; cases hm_ : p.more <;> simp_all only [Bool.not_true, Bool.not_false, true_and, false_and, decide_false, reduceCtorEq]) | (have h3 := ‹(!p.more) = false›; cases hm_ : p.more <;> simp [hm_] at h3 ⊢)), trivial⟩ trivial (Ent.imp (by repeat first | exact Imp.refl _ | (apply Imp.pull; focus ((repeat first | exact Del.head _ _ | apply Del.tail); done)) | apply Imp.drop)))
      | (rw [tk_own (by omega) hc.1 hc.2, hEY]; exact Fini.of ⟨rfl, rfl⟩ (Imp.pc rfl rfl (by repeat first | exact Imp.refl _ | (apply Imp.pull; focus ((repeat first | exact Del.head _ _ | apply Del.tail); done)) | apply Imp.drop)))
      | (rw [tk_may (by omega) ‹¬ (p.more = false ∧ p.off = 0)› (by assumption), hEY, del_map]; exact Fini.of ⟨rfl, rfl⟩ (Imp.pc rfl (delG_map Y (keyE p)).symm (by repeat first | exact Imp.refl _ | (apply Imp.pull; focus ((repeat first | exact Del.head _ _ | apply Del.tail); done)) | (refine Imp.pullF (by repeat first | exact Del.head _ _ | apply Del.tail) List.filter_sublist ?_) | apply Imp.drop)))
      | (refine T.atK (.tmp 82) ?_; obtain ⟨b11, hb11⟩ : ∃ x, x = b := ⟨_, rfl⟩; subst hb11; refine T.cutC (.tmp 82) (fun z : Nat × PSet × XS × XS => [(0, .pointer (some ⟨r, 0, none⟩)), (4, .pointer (some ⟨b4, 0, none⟩)), (6, .pointer (some ⟨b6, 0, none⟩)), (11, .pointer (some ⟨b11, 0, none⟩)), (13, .pointer (some ⟨z.1, 0, none⟩))]) (fun z => row 38 b4 (pktV p) :: row 38 b6 [.int .u32 0, .int .u32 0, .int .u8 0, .int .u8 0, .int .u16 0, .bool false, .bool false, .int .u16 0, .string { data := #[] }] :: row 67 b11 [.int .u32 p.src, .int .u32 p.dst, .int .u8 p.proto, .int .u16 p.id] :: row 65 r [.int .i64 most, .int .u64 life, .map (some m)] :: mapG keyV pv m (z.2.2.1.map kpE ++ (keyE p, z.1) :: z.2.2.2.map kpE) :: setA z.1 z.2.1 :: famA (z.2.2.1 ++ z.2.2.2) :: R) (fun z => inH Y most (now + life) (keyE p) z) ?_ (fun z g hz => ?_); rotate_left; have hm0 := hc; have hHO := hand_ok hz hSY; have hHP := add_hand hHO hp (Decidable.not_not.1 hm0); have hb := hz.beside hSY; have hdel := hz.del hSY; have hput := hz.put hSY; have htk := tk_hand hz hEY (by omega) ‹¬ (p.more = false ∧ p.off = 0)› hm0; have hkx := add_key hz; have hA : p.ok ∧ z.2.1.l.length < 100000 ∧ (∀ q ∈ z.2.1.l, q.ok) ∧ z.2.1.l.Pairwise (fun a b => a.off < b.off) ∧ (z.2.1.l.any (parE p) = false → ∀ q ∈ z.2.1.l, q.off ≠ p.off) := ⟨hp, Nat.lt_of_le_of_lt hHO.len (by decide), hHO.all, hHO.srt, par_off hHO (may_z (Decidable.not_not.1 hm0)).1⟩; have hW : ¬ (addE z.2.1 p).2 ≠ 0 → 0 < (addE z.2.1 p).1.l.length ∧ (addE z.2.1 p).1.l.length < 100000 ∧ (∀ q ∈ (addE z.2.1 p).1.l, q.ok) ∧ (∀ q ∈ (addE z.2.1 p).1.l, q.data ≠ []) ∧ ((addE z.2.1 p).1.l.flatMap (·.data)).length < 1000000000 := fun h => ⟨add_ne h, Nat.lt_of_le_of_lt hHP.len (by decide), hHP.all, hHP.dt, hHP.sum⟩; rotate_right)
      | (refine TQ.atC ?_; obtain ⟨s_, hat⟩ : ∃ s_, atG (Y.map kpE) (p.src, p.dst, p.proto, p.id) = some s_ := (by cases h : atG (Y.map kpE) (p.src, p.dst, p.proto, p.id) with | none => simp [h] at hc | some s => exact ⟨s, rfl⟩); obtain ⟨A, x, B, hYs, hkx, hfs⟩ := find_some hat; refine TQ.cn ((s_, x, A, B) : Nat × PSet × XS × XS) rfl ⟨rfl, rfl, rfl, rfl, (by rw [hat]; rfl), trivial⟩ (.inl ⟨hfs, hkx, hYs⟩) (Ent.imp ?_); subst hYs; exact (show Imp _ (mapG keyV pv m ((A ++ (s_, x) :: B).map kpE) :: famA (A ++ (s_, x) :: B) :: row 38 b4 (pktV p) :: row 38 b6 [.int .u32 0, .int .u32 0, .int .u8 0, .int .u8 0, .int .u16 0, .bool false, .bool false, .int .u16 0, .string { data := #[] }] :: row 67 b11 [.int .u32 p.src, .int .u32 p.dst, .int .u8 p.proto, .int .u16 p.id] :: row 65 r [.int .i64 most, .int .u64 life, .map (some m)] :: R) from (by repeat first | exact Imp.refl _ | (apply Imp.pull; focus ((repeat first | exact Del.head _ _ | apply Del.tail); done)) | apply Imp.drop)).trans ((Imp.split hkx).trans (by repeat first | exact Imp.refl _ | (apply Imp.pull; focus ((repeat first | exact Del.head _ _ | apply Del.tail); done)) | apply Imp.drop)))
      | (refine TQ.atC ?_; obtain ⟨b22, hb22⟩ : ∃ x, x = b := ⟨_, rfl⟩; subst hb22; refine TQ.cn ((b22, ⟨[], now + life⟩, Y, []) : Nat × PSet × XS × XS) rfl ⟨rfl, rfl, rfl, rfl, rfl, trivial⟩ (.inr ⟨(find_none (k := keyE p) (by cases h : atG (Y.map kpE) (keyE p) with | none => rfl | some s => (have hcn := ‹Option.isNone _ = true›; rw [show atG (Y.map kpE) (p.src, p.dst, p.proto, p.id) = some s from h] at hcn; cases hcn))), (by simpa using ‹¬ most ≤ (List.map kpE Y).length›), rfl, rfl, rfl⟩) (Ent.imp ?_); dsimp only [List.map_nil]; rw [List.append_nil]; exact (by repeat first | exact Imp.refl _ | (apply Imp.pull; focus ((repeat first | exact Del.head _ _ | apply Del.tail); done)) | (refine Imp.set (x := ⟨[], now + life⟩) (a := none) (k := 0) rfl rfl ?_) | (refine Imp.slN ?_) | apply Imp.drop))
      | (rw [tk_full (by omega) ‹¬ (p.more = false ∧ p.off = 0)› (by assumption) (by rw [hEY]; exact (find_none (k := keyE p) (by cases h : atG (Y.map kpE) (keyE p) with | none => rfl | some s => (have hcn := ‹Option.isNone _ = true›; rw [show atG (Y.map kpE) (p.src, p.dst, p.proto, p.id) = some s from h] at hcn; cases hcn)))) (by rw [hEY]; simpa using ‹most ≤ (List.map kpE Y).length›), hEY]; exact Fini.of ⟨rfl, rfl⟩ (Imp.pc rfl rfl (by repeat first | exact Imp.refl _ | (apply Imp.pull; focus ((repeat first | exact Del.head _ _ | apply Del.tail); done)) | apply Imp.drop)))
      | exact hem
      | exact he_
      | exact hA
      | exact hW (by assumption)
      | exact key_not (find_none (k := keyE p) (by cases h : atG (Y.map kpE) (keyE p) with | none => rfl | some s => (have hcn := ‹Option.isNone _ = true›; rw [show atG (Y.map kpE) (p.src, p.dst, p.proto, p.id) = some s from h] at hcn; cases hcn))) (by assumption)
      | (rw [htk, fin_err (by assumption), hdel]; exact Fini.of ⟨rfl, rfl⟩ (Imp.pc rfl (delG_mid hb).symm (by repeat first | exact Imp.refl _ | (apply Imp.pull; focus ((repeat first | exact Del.head _ _ | apply Del.tail); done)) | apply Imp.drop)))
      | (obtain ⟨w_, hw⟩ := Option.isSome_iff_exists.1 ‹(wholeE (addE z.2.1 p).1.l).isSome = true›; rw [htk, fin_yes (by assumption) hw, hdel, hw]; exact Fini.of ⟨rfl, rfl⟩ (Imp.pc rfl (delG_mid hb).symm (by repeat first | exact Imp.refl _ | (apply Imp.pull; focus ((repeat first | exact Del.head _ _ | apply Del.tail); done)) | apply Imp.drop)))
      | (have hw := is_none ‹(wholeE (addE z.2.1 p).1.l).isSome = false›; rw [htk, fin_no (by assumption) hw, hput, hw]; exact Fini.of ⟨rfl, rfl⟩ ((show Imp _ (setA z.1 (addE z.2.1 p).1 :: famA (z.2.2.1 ++ z.2.2.2) :: row 65 r [.int .i64 most, .int .u64 life, .map (some m)] :: mapG keyV pv m (z.2.2.1.map kpE ++ (keyE p, z.1) :: z.2.2.2.map kpE) :: R) from (by repeat first | exact Imp.refl _ | (apply Imp.pull; focus ((repeat first | exact Del.head _ _ | apply Del.tail); done)) | apply Imp.drop)).trans (famA_shut.trans (Imp.pc rfl (map_mid (hkx (by assumption))) (by repeat first | exact Imp.refl _ | (apply Imp.pull; focus ((repeat first | exact Del.head _ _ | apply Del.tail); done)) | apply Imp.drop)))))
      | refine T.pl 9 [5] (.p 0 (.p 1 (.d 2 (.d 3 (.d 4 (.n 5 .fin)))))) ?_
      | refine T.pl 15 [5] (.p 0 (.p 1 (.d 2 (.d 3 (.d 4 (.n 5 .fin)))))) ?_
      | refine T.pl 17 [] (.p 0 (.p 1 (.d 2 (.d 3 (.d 4 (.d 5 (.p 6 .fin))))))) ?_
      | refine T.pl 19 [] (.p 0 (.p 1 (.p 5 (.p 6 (.d 2 (.d 3 (.d 4 (.d 7 (.d 8 (.p 9 .fin)))))))))) ?_
      | refine T.pl 22 [6] (.p 0 (.p 1 (.p 5 (.d 2 (.d 3 (.d 4 (.n 6 .fin))))))) ?_
      | refine T.pl 25 [5] (.p 0 (.p 1 (.d 2 (.d 3 (.d 4 (.n 5 .fin)))))) ?_
      | refine T.pl 29 [5] (.p 0 (.p 1 (.d 2 (.d 3 (.d 4 (.n 5 .fin)))))) ?_
      | refine And.intro (fun hc => ?_) (fun hc => ?_)
      | refine And.intro ?_ ?_
      | intro b
      | refine stp ?_
      | refine TQ.finC ?_
      | refine TQ.finC2 ?_
      | refine TQ.finC3 ?_
      | refine ⟨fun hc => ?_, fun hc => ?_⟩
      | refine Ei.f ?_
      | refine ⟨?_, ?_⟩
      | intro b
      | exact absurd rfl hc
      | exact absurd hc (by decide)
      | exact absurd rfl hc
      | exact absurd hc (by decide)
      | omega
      | (dsimp only; omega)
      | fail)
class PcAt (L : List Assn) (r : Nat) (most life : outParam Nat) (S : outParam (List PSet)) (R : outParam (List Assn)) : Prop where h : Del (pcA r most life S) L R
instance (priority := 1100) {L : List Assn} {r most life : Nat} {S : List PSet} : PcAt (pcA r most life S :: L) r most life S L := ⟨.head _ _⟩
instance {A : Assn} {L R : List Assn} {r most life : Nat} {S : List PSet} [h : PcAt L r most life S R] : PcAt (A :: L) r most life S (A :: R) := ⟨.tail h.h⟩
instance {L R : List Assn} {r most life now : Nat} {S : List PSet} {x : Int} {p : Pkt} {us : List Value} [hd : PcAt L r most life S R] [hu : InvL pktV us p] [hx : Nn x now] : FnR Try.prog 14 [.pointer (some ⟨r, 0, none⟩), .agg us.toArray, .int .u64 x] L (fun kk => Vc (SsOk S ∧ p.ok ∧ life ≤ 4294967296 ∧ most < 1000) (kk (asResult [.agg (pktV (takeE most life S p now).2.1).toArray, .bool (takeE most life S p now).2.2.1, .int .i64 ((takeE most life S p now).2.2.2 : Nat)]) (pcA r most life (takeE most life S p now).1 :: R))) :=
  ⟨fun kk h => ⟨_, R, _, by rw [← hu.h, hx.h]; exact take14 r most life S p now h.l.1 h.l.2.1 h.l.2.2.1 h.l.2.2.2, .cons hd.h (.nil _), fun v L' hv => by rw [hv.1, hv.2]; exact h.r⟩⟩

end Go.Proofs.Ytmhkmcoobpfkcaa

