/- Lemmas for the proofs of this seat: no statement of the seat is claimed here. -/
import Derived.Test.YtmhkmcoobpfkcaaSf
import Derived.Test.YtmhkmcoobpfkcaaSa
import Derived.Test.YtmhkmcoobpfkcaaSg
set_option linter.all false

namespace Go.Proofs.Ytmhkmcoobpfkcaa
open Go Pw
set_option maxRecDepth 20000
set_option maxHeartbeats 4000000
set_option synthInstance.maxHeartbeats 400000
set_option synthInstance.maxSize 4000
set_option maxHeartbeats 8000000

abbrev MayP (x : Int) (life : Nat) : Prop := 1 ≤ x ∧ x ≤ 32 ∧ 1 ≤ life ∧ life ≤ 4294967296
instance (priority := 1200) {L : List Assn} {x y : Int} {life : Nat} [hy : Nn y life] : FnR Try.prog 12 [.int .i64 x, .int .u64 y] L (fun kk => Vc (-9223372036854775808 ≤ x ∧ x < 9223372036854775808 ∧ life < 18446744073709551616) ((MayP x life → ∀ m r : Nat, x = m → kk (asResult [.pointer (some ⟨r, 0, none⟩), .int .i64 (0 : Nat)]) (pcA r m life [] :: L)) ∧ (¬ MayP x life → kk (asResult [.pointer none, .int .i64 (2 : Nat)]) L))) :=
  ⟨fun kk h => by
    obtain ⟨⟨h1, h2, h3⟩, h4, h5⟩ := h
    rw [hy.h]
    by_cases hm : MayP x life
    · obtain ⟨m, rfl⟩ : ∃ m : Nat, x = m := ⟨x.toNat, by have := hm.1; omega⟩
      exact ⟨[], L, _, new_ok m life (by have := hm.1; omega) (by have := hm.2.1; omega) hm.2.2.1 hm.2.2.2, .nil _, fun v L' hv => by obtain ⟨r, e1, e2⟩ := hv; rw [e1, e2]; exact h4 hm m r rfl⟩
    · exact ⟨[], L, _, new_bad x life (by unfold MayP at hm; omega) h1 h2 h3, .nil _, fun v L' hv => by rw [hv.1, hv.2]; exact h5 hm⟩⟩
instance {L : List Assn} {x y : Int} {life : Nat} [hy : Nn y life] : FnR Try.prog 13 [.int .i64 x, .int .u64 y] L (fun kk => Vc (-9223372036854775808 ≤ x ∧ x < 9223372036854775808 ∧ life < 18446744073709551616) (kk (.bool (decide (1 ≤ x ∧ x ≤ 32 ∧ 1 ≤ life ∧ life ≤ 4294967296))) L)) :=
  ⟨fun kk h => ⟨[], L, _, by rw [hy.h]; exact may13 x life h.l.1 h.l.2.1 h.l.2.2, .nil _, fun v L' hv => by rw [hv.1, hv.2]; exact h.r⟩⟩
class RfAt (L : List Assn) (r : Nat) (most life : outParam Nat) (S : outParam (List PSet)) (R : outParam (List Assn)) : Prop where h : Del (refA r most life S) L R
instance (priority := 1100) {L : List Assn} {r most life : Nat} {S : List PSet} : RfAt (refA r most life S :: L) r most life S L := ⟨.head _ _⟩
instance {A : Assn} {L R : List Assn} {r most life : Nat} {S : List PSet} [h : RfAt L r most life S R] : RfAt (A :: L) r most life S (A :: R) := ⟨.tail h.h⟩
instance {L R : List Assn} {r most life now : Nat} {S : List PSet} {x : Int} {p : Pkt} {us : List Value} [hd : RfAt L r most life S R] [hu : InvL pktV us p] [hx : Nn x now] : FnR Try.prog 15 [.pointer (some ⟨r, 0, none⟩), .agg us.toArray, .int .u64 x] L (fun kk => Vc (SsOk S ∧ p.ok ∧ life ≤ 4294967296 ∧ most < 1000 ∧ S.length < 100000) (kk (asResult [.agg (pktV (takeE most life S p now).2.1).toArray, .bool (takeE most life S p now).2.2.1, .int .i64 ((takeE most life S p now).2.2.2 : Nat)]) (refA r most life (takeE most life S p now).1 :: R))) :=
  ⟨fun kk h => ⟨_, R, _, by rw [← hu.h, hx.h]; exact rtake15 r most life S p now h.l.1 h.l.2.1 h.l.2.2.1 h.l.2.2.2.1 h.l.2.2.2.2, .cons hd.h (.nil _), fun v L' hv => by rw [hv.1, hv.2]; exact h.r⟩⟩
theorem ref_new {r m life : Nat} {L R : List Assn} (h : Del (row 34 r [.int .i64 m, .int .u64 life, .slice none 0 0]) L R) : Imp L (refA r m life [] :: R) :=
  Imp.ref (Y := []) rfl rfl (Imp.pull h (Imp.slN (famL_nil (L := R))))
theorem T.openRef {P : Program} {rd_ : Rd} {c : Ctx} {L R : List Assn} {code : Code} {Q : Exit → Env → Rd → World → Prop} {E : Env} {r m life : Nat} {S : List PSet} (hd : Del (refA r m life S) L R) (h : ∀ (Y : List RY) (a : Option Addr) (k : Nat), Y.map (·.2) = S → T P rd_ c (row 34 r [.int .i64 m, .int .u64 life, .slice a Y.length k] :: Pw.sl 74 (1 + 1) (.slice a Y.length k) Y.length (Y.flatMap ptrS) :: famL Y :: R) code Q E) : T P rd_ c L code Q E :=
  T.openA (p := fun z : List RY × (Option Addr × Nat) => z.1.map (·.2) = S) (Ls := refL r m life) hd (fun z hz => h z.1 z.2.1 z.2.2 hz)
attribute [local irreducible] takeE refA
theorem pieces_spec (h : Array Obj) (l : List Stp) (a : Option Addr) (k : Nat) [hI : InpD h a (9 + 1) l.length k (l.flatMap stpV)] [hIP : InpP a (9 + 1) l.length k] (hok : ∀ j, (gt l j).ok) (hl : l.length < 4611686018427387904) (most : Int) (life : Nat) (hm : -9223372036854775808 ≤ most) (hm2 : most < 9223372036854775808) (hlf : life < 18446744073709551616) :
    Sat Try.prog 3 [.int .i64 most, .int .u64 life, .slice a l.length k] [old h] (fun u L' => u = .bool true ∧ L' = [old h]) := by
  all_goals
    refine Sat.enter Try.func3 rfl Try.ntmps3 rfl (fun c R => ?_)
    try simp only [List.cons_append, List.nil_append]
    repeat' (first
      | refine Pw.LkG.stkg ?_
      | (refine T.atR 3 ?_; have hhv := b hc; clear b)
      | (refine T.atR 4 ?_; rename_i m_ r_; obtain rfl : most = (m_ : Int) := b; obtain ⟨hMa, hMb, hMc, hMd⟩ := (hc : _ ∧ _ ∧ _ ∧ _); have hgo : True := trivial)
      | (refine T.atB 0 ?_; obtain ⟨rb, hrb⟩ : ∃ x, x = b := ⟨_, rfl⟩; subst hrb; refine T.ent (Ent.imp (ref_new (by repeat first | exact Del.head _ _ | apply Del.tail))) ?_; refine T.lpa 0 [(2, _), (7, _), (9, _)] ((0, []) : Nat × List PSet) (fun z => [(10, .int .i64 (z.1 : Nat))]) (fun z => [pcA r_ m_ life z.2, refA rb m_ life z.2]) (fun z => z.1 ≤ l.length ∧ SsOk z.2 ∧ z.2.length ≤ m_) (fun z => l.length - z.1) ⟨Nat.zero_le _, ss0, Nat.zero_le _⟩ ?_; rintro ⟨i, S⟩ g ⟨hi, hS, hSl⟩; dsimp only at hi hS hSl ⊢; have hon := (hok i).now; have hpk := fun h : i < l.length => (hok i).p.ok (Nat.lt_of_le_of_lt (hhv.2 i h) (by decide)); simp only [List.cons_append, List.nil_append, appR])
      | (refine T.atR 14 ?_; clear hgo; have hlen := take_len (most := m_) (life := life) (now := (gt l i).now) (S := S) (p := (gt l i).p); have hss := ss_take (most := m_) (life := life) (now := (gt l i).now) hS (hpk (by assumption)) (by omega); generalize takeE m_ life S (gt l i).p (gt l i).now = T_ at *; obtain ⟨S', p', is_, e_⟩ := T_; dsimp only at hlen hss ⊢; refine T.openRef (r := rb) (by repeat first | exact Del.head _ _ | apply Del.tail) ?_; rintro Y a9 k9 hz9; have hz8 : Y.length = S'.length := (by rw [← hz9, List.length_map]); skip)
      | (refine TQ.atL ?_; refine TQ.rd ((i + 1, S') : Nat × List PSet) rfl ⟨rfl, rfl, rfl, rfl, trivial⟩ ⟨by dsimp only; omega, hss, by dsimp only; omega⟩ (by dsimp only; omega) (Ent.imp (by repeat first | exact Imp.refl _ | (apply Imp.pull; focus ((repeat first | exact Del.head _ _ | apply Del.tail); done)) | (refine Imp.ref (a := a9) (k := k9) hz9 rfl ?_) | apply Imp.drop)))
      | (exact Fini.of ⟨rfl, rfl⟩ (by repeat first | exact Imp.refl _ | (apply Imp.pull; focus ((repeat first | exact Del.head _ _ | apply Del.tail); done)) | apply Imp.drop))
      | refine Pw.Vc.mk ?_ ?_
      | exact ⟨hm, hm2, hlf⟩
      | exact ⟨hS, hpk (by assumption), by omega, by omega⟩
      | exact ⟨hS, hpk (by assumption), by omega, by omega, by omega⟩
      | exact ⟨hok, rfl, hl⟩
      | exact absurd rfl ‹p' ≠ p'›
      | exact absurd rfl ‹e_ ≠ e_›
      | exact absurd hz8.symm (by assumption)
      | exact absurd hc (by rw [bne_self_eq_false]; exact Bool.false_ne_true)
      | refine T.pk 12 [11, 16, 17] (.p 0 (.p 1 (.p 2 (.p 3 (.p 6 (.p 7 (.p 8 (.p 4 (.g 5 (.p 9 (.g 10 (.b2 11 (.p 12 (.p 13 (.p 14 (.p 15 (.n 16 (.n 17 (.p 18 (.p 19 .fin)))))))) 16 (.n 11 (.p 12 (.p 13 (.p 14 (.p 15 (.n 17 (.p 18 (.p 19 .fin)))))))))))))))))))) ?_
      | refine T.pk 13 [11, 16, 17] (.p 0 (.p 1 (.p 2 (.p 3 (.p 6 (.p 7 (.p 8 (.p 4 (.g 5 (.p 9 (.g 10 (.b2 11 (.p 12 (.p 13 (.p 14 (.p 15 (.n 16 (.n 17 (.p 18 (.p 19 .fin)))))))) 16 (.n 11 (.p 12 (.p 13 (.p 14 (.p 15 (.n 17 (.p 18 (.p 19 .fin)))))))))))))))))))) ?_
      | refine T.pk 14 [15] (.g 0 (.g 1 (.p 2 (.p 3 (.p 4 (.p 5 (.p 6 (.p 7 (.p 8 (.p 9 (.p 10 (.p 11 (.p 12 (.p 13 (.p 14 (.p 16 (.p 17 (.p 18 (.g 19 (.p 20 (.n 15 (.p 21 (.p 22 .fin))))))))))))))))))))))) ?_
      | refine And.intro (fun hc => ?_) (fun hc => ?_)
      | refine And.intro ?_ ?_
      | intro b
      | refine stk ?_
      | refine stp ?_
      | refine TQ.finC ?_
      | refine TQ.finC2 ?_
      | refine TQ.finC3 ?_
      | refine ⟨fun hc => ?_, fun hc => ?_⟩
      | refine Ei.f ?_
      | refine ⟨?_, ?_⟩
      | intro b
      | exact absurd rfl hc
      | exact absurd hc (by decide)
      | exact absurd rfl hc
      | exact absurd hc (by decide)
      | omega
      | (dsimp only; omega)
      | (have h7 := hc; simp at h7; omega)
      | fail)

end Go.Proofs.Ytmhkmcoobpfkcaa

