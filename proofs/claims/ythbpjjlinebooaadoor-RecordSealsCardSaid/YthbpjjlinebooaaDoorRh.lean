/- Lemmas for the proofs of this seat: no statement of the seat is claimed here. -/
import Derived.Test.YthbpjjlinebooaaDoorRd
import Derived.Test.YthbpjjlinebooaaDoorRa
set_option linter.all false

namespace Go.Proofs.YthbpjjlinebooaaDoor
open Go Pw
set_option maxRecDepth 20000
set_option maxHeartbeats 4000000
set_option maxHeartbeats 2000000

/-- What a reader that has no fault holds is not whole. -/
def okR (b : List UInt8) (f : Nat) : Prop := f = 0 → b.length < 65541 ∧ (b.length < 5 ∨ b.length < 5 + lngE b)
theorem gt_app1 {b : List UInt8} {c : UInt8} {i : Nat} (h : i < b.length) : gt (b ++ [c]) i = gt b i := by
  unfold gt; rw [List.getD_eq_getElem?_getD, List.getElem?_append_left h, ← List.getD_eq_getElem?_getD]
theorem ok_bd {b : List UInt8} {c : UInt8} (h : okR b 0) : (b ++ [c]).length < 5 ∨ (b ++ [c]).length ≤ 5 + lngE (b ++ [c]) := by
  have hl : (b ++ [c]).length = b.length + 1 := by simp
  rcases (h rfl).2 with h2 | h2
  · omega
  · rcases Nat.lt_or_ge b.length 5 with h3 | h3
    · omega
    · have e : lngE (b ++ [c]) = lngE b := by unfold lngE; rw [gt_app1 (by omega), gt_app1 (by omega)]
      omega
theorem fed_n {b : List UInt8} {c : UInt8} (l : List (Nat × List UInt8)) (ho : okR b 0) (h : fltE (b ++ [c]) ≠ 0 ∨ (b ++ [c]).length < 5 ∨ (b ++ [c]).length ≠ 5 + lngE (b ++ [c])) : fedS (b, 0, l) c = (b ++ [c], fltE (b ++ [c]), l) ∧ okR (b ++ [c]) (fltE (b ++ [c])) := by
  have hb := ok_bd (c := c) ho
  have hL := lng_lt (b ++ [c])
  have e : takeE b c = (b ++ [c], fltE (b ++ [c]), none) := by
    rw [takeE, if_pos (by omega)]
  refine ⟨by rw [fedS, if_pos rfl]; dsimp only; rw [e]; simp only [Option.toList, List.append_nil], fun h0 => ?_⟩
  omega
theorem fed_w {b : List UInt8} {c : UInt8} (l : List (Nat × List UInt8)) (h : fltE (b ++ [c]) = 0) (h1 : 5 ≤ (b ++ [c]).length) (h2 : (b ++ [c]).length = 5 + lngE (b ++ [c])) : fedS (b, 0, l) c = ([], 0, l ++ [((gt (b ++ [c]) 0).toNat, (b ++ [c]).drop 5)]) := by
  have e : takeE b c = ([], 0, some ((gt (b ++ [c]) 0).toNat, (b ++ [c]).drop 5)) := by
    rw [takeE, if_neg (by omega)]
  rw [fedS, if_pos rfl]; dsimp only; rw [e]; rfl
theorem okR_len {b : List UInt8} {f : Nat} (h : okR b f) : f = 0 → b.length < 65541 := fun h0 => (h h0).1
theorem ok_nil (f : Nat) : okR [] f := fun _ => ⟨by decide, .inl (by decide)⟩
theorem flt_lt (b : List UInt8) : fltE b < 300 := by unfold fltE; repeat' split
                                                     all_goals omega
instance (priority := 1300) {P : Program} {l : List UInt8} {i : Nat} {x y : Int} {t : TypeId} {k k' : IntKind} [ht : Und P t .string] [hx : Nn x i] [hy : Nn y (i + 1)] : Pu P (.slice t (str l) (some (.int k x)) (some (.int k' y)) none) (fun q => Vc (i < l.length) (q (str [gt l i]))) :=
  ⟨fun E d op ty pos af g hr q hk => by
    have hk' : (Vc (i ≤ i + 1 ∧ i + 1 ≤ l.length) (q (str ((l.take (i + 1)).drop i)))) := ⟨⟨by omega, hk.l⟩, by
      have e : (l.take (i + 1)).drop i = [gt l i] := by
        have h := hk.l
        have e2 : l.take (i + 1) = l.take i ++ [gt l i] := by rw [List.take_succ, gt, List.getD_eq_getElem?_getD]; simp [h]
        rw [e2]
        exact List.drop_left' (by rw [List.length_take]; omega)
      rw [e]; exact hk.r⟩
    exact (inferInstance : Pu P (.slice t (str l) (some (.int k x)) (some (.int k' y)) none) (fun q => Vc (i ≤ i + 1 ∧ i + 1 ≤ l.length) (q (str ((l.take (i + 1)).drop i))))).go E d op ty pos af g hr q hk'⟩
theorem Imp.rdX {e : TypeId} {sz n : Nat} {v : Value} {xs : List Value} {L L' R : List Assn} (h : Del (Pw.sl e sz v n xs) L R) (i : Imp R L') : Imp L (rdL e sz v n xs :: L') := Imp.trans (Imp.rd h) (Imp.pull (Del.head _ _) i)
attribute [local irreducible] fltE lngE takeE fedE okR
theorem rfeed_spec (p f : Nat) (bs s : List UInt8) (hf : f < 9223372036854775808) (ho : okR bs f) (hs : s.length < 1099511627776) :
    Sat Tryd.prog 12 [.pointer (some ⟨p, 0, none⟩), str s] [Pw.row 28 p [str bs, .int .i64 (f : Nat)]] (fun u L' => ∃ a2 k2, u = asResult [.slice a2 (fedE (bs, f, []) s).2.2.length k2, .int .i64 ((fedE (bs, f, []) s).2.1 : Nat)] ∧ L' = [Pw.row 28 p [str (fedE (bs, f, []) s).1, .int .i64 ((fedE (bs, f, []) s).2.1 : Nat)], rdL 44 2 (.slice a2 (fedE (bs, f, []) s).2.2.length k2) (fedE (bs, f, []) s).2.2.length ((fedE (bs, f, []) s).2.2.flatMap recV)]) := by
  all_goals
    refine Sat.enter Tryd.func12 rfl Tryd.ntmps12 rfl (fun c R => ?_)
    try simp only [List.cons_append, List.nil_append]
    repeat' (first
      | (refine T.atB 0 ?_; refine T.ent (Ent.imp (show Imp _ (sl 44 2 (.slice none ([] : List (Nat × List UInt8)).length 0) ([] : List (Nat × List UInt8)).length (([] : List (Nat × List UInt8)).flatMap recV) :: _) from Imp.slN (Imp.refl _))) ?_; refine T.lpa 0 [(0, _), (1, _)] ((0, (bs, f, []), (none, 0)) : Nat × (List UInt8 × Nat × List (Nat × List UInt8)) × (Option Addr × Nat)) (fun z => [(6, .slice z.2.2.1 z.2.1.2.2.length z.2.2.2), (7, .int .i64 (z.1 : Nat))]) (fun z => [Pw.row 28 p [str z.2.1.1, .int .i64 (z.2.1.2.1 : Nat)], sl 44 2 (.slice z.2.2.1 z.2.1.2.2.length z.2.2.2) z.2.1.2.2.length (z.2.1.2.2.flatMap recV)]) (fun z => z.1 ≤ s.length ∧ z.2.1 = fedE (bs, f, []) (s.take z.1) ∧ okR z.2.1.1 z.2.1.2.1 ∧ z.2.1.2.1 < 9223372036854775808 ∧ z.2.1.2.2.length ≤ z.1) (fun z => s.length - z.1) ⟨Nat.zero_le _, fed0 _ _, ho, hf, Nat.zero_le _⟩ ?_; rintro ⟨i, ⟨bf, fl, l⟩, ⟨a2, k2⟩⟩ g ⟨hI, hst, hok, hfl, hll⟩; dsimp only at hI hst hok hfl hll ⊢; have hbl := okR_len hok; simp only [List.cons_append, List.nil_append, appR])
      | (refine T.atR 6 ?_; have hfb := flt_lt (bf ++ [gt s i]); have hlb := lng_lt (bf ++ [gt s i]); have hle : (bf ++ [gt s i]).length = bf.length + 1 := (by simp); have h3 := (gt (bf ++ [gt s i]) 3).toNat_lt; have h4 := (gt (bf ++ [gt s i]) 4).toNat_lt; have hor : (gt (bf ++ [gt s i]) 3).toNat * 2 ^ 8 ||| (gt (bf ++ [gt s i]) 4).toNat = lngE (bf ++ [gt s i]) := lngE_eq _; refine Hold.h ?_)
      | (have e := fed_end hst (by dsimp only; omega); rw [← e]; exact Fini.of ⟨_, _, rfl, rfl⟩ (by repeat first | exact Imp.refl _ | (apply Imp.pull; focus ((repeat first | exact Del.head _ _ | apply Del.tail); done)) | (apply Imp.rdX; focus ((repeat first | exact Del.head _ _ | apply Del.tail); done)) | apply Imp.drop))
      | (have ei : i = s.length := (by omega); rw [ei, List.take_length] at hst; rw [← hst]; exact Fini.of ⟨_, _, rfl, rfl⟩ (by repeat first | exact Imp.refl _ | (apply Imp.pull; focus ((repeat first | exact Del.head _ _ | apply Del.tail); done)) | (apply Imp.rdX; focus ((repeat first | exact Del.head _ _ | apply Del.tail); done)) | apply Imp.drop))
      | refine T.pl 5 [13] (.p 0 (.p 1 (.p 2 (.p 5 (.p 6 (.p 7 (.p 8 (.p 9 (.d 3 (.d 4 (.p 10 (.p 11 (.d 12 (.n 13 .fin)))))))))))))) ?_
      | refine T.pl 7 [] (.p 0 (.p 1 (.d 2 (.d 3 (.p 4 (.p 5 (.p 6 (.p 7 (.d 8 (.d 9 (.p 10 (.p 11 (.p 12 (.p 13 (.p 14 (.p 15 (.p 19 (.p 20 (.p 26 (.p 27 (.d 16 (.d 17 (.p 18 (.d 21 (.d 22 (.p 23 (.p 24 (.p 25 (.d 28 (.d 29 (.p 30 (.p 31 (.p 32 (.p 33 (.p 34 (.p 35 .fin)))))))))))))))))))))))))))))))))))) ?_
      | refine T.pl 8 [12, 13] (.p 0 (.p 1 (.p 2 (.p 6 (.p 7 (.d 3 (.d 4 (.p 5 (.d 8 (.d 9 (.p 10 (.p 11 (.n 12 (.n 13 (.p 14 .fin))))))))))))))) ?_
      | refine T.pl 10 [] (.p 0 (.p 1 (.p 2 (.p 5 (.d 3 (.d 4 (.p 6 .fin))))))) ?_
      | refine And.intro (fun hc => ?_) (fun hc => ?_)
      | refine And.intro ?_ ?_
      | intro b
      | refine stp ?_
      | refine TQ.finC ?_
      | refine TQ.finC2 ?_
      | refine TQ.finC3 ?_
      | refine ⟨fun hc => ?_, fun hc => ?_⟩
      | refine Ei.f ?_
      | refine ⟨?_, ?_⟩
      | intro b
      | omega
      | (dsimp only; omega)
      | (simp only [List.length_append, List.length_replicate, List.length_cons, List.length_nil] <;> omega)
      |  fail)
    all_goals try refine Hold.mk ?_
    repeat' (first
      | (refine TQ.atL ?_; have hz : fl = 0 := (by omega); subst hz; have hnx := fed_next (z := (bs, f, [])) (s := s) (i := i) (by omega); rw [← hst] at hnx; have hfn := fed_n (c := gt s i) l hok (by omega); refine TQ.rd ((i + 1, ((bf ++ [gt s i]), fltE (bf ++ [gt s i]), l), (a2, k2)) : Nat × (List UInt8 × Nat × List (Nat × List UInt8)) × (Option Addr × Nat)) rfl ⟨rfl, rfl, rfl, rfl, trivial⟩ ⟨by dsimp only; omega, by dsimp only; rw [hnx, hfn.1], hfn.2, by dsimp only; omega, by dsimp only; omega⟩ (by dsimp only; omega) (Ent.imp (by repeat first | exact Imp.refl _ | (apply Imp.pull; focus ((repeat first | exact Del.head _ _ | apply Del.tail); done)) | apply Imp.drop)))
      | (refine TQ.atL ?_; have hz : fl = 0 := (by omega); subst hz; have hnx := fed_next (z := (bs, f, [])) (s := s) (i := i) (by omega); rw [← hst] at hnx; have hfw := fed_w (b := bf) (c := gt s i) l (by omega) (by omega) (by omega); have e1 : l.length + 1 = (l ++ [((gt (bf ++ [gt s i]) 0).toNat, (bf ++ [gt s i]).drop 5)]).length := (by simp); have e2 : l.flatMap recV ++ recV ((gt (bf ++ [gt s i]) 0).toNat, (bf ++ [gt s i]).drop 5) = (l ++ [((gt (bf ++ [gt s i]) 0).toNat, (bf ++ [gt s i]).drop 5)]).flatMap recV := (by simp); rename_i a4; rw [e1, e2]; have hf0 : fltE (bf ++ [gt s i]) = 0 := (by omega); refine TQ.rd ((i + 1, ([], fltE (bf ++ [gt s i]), l ++ [((gt (bf ++ [gt s i]) 0).toNat, (bf ++ [gt s i]).drop 5)]), (a4, b)) : Nat × (List UInt8 × Nat × List (Nat × List UInt8)) × (Option Addr × Nat)) rfl ⟨rfl, rfl, rfl, rfl, trivial⟩ ⟨by dsimp only; omega, by dsimp only; rw [hnx, hfw, hf0], ok_nil _, by dsimp only; omega, by dsimp only; rw [List.length_append, List.length_singleton]; omega⟩ (by dsimp only; omega) (Ent.imp (by repeat first | exact Imp.refl _ | (apply Imp.pull; focus ((repeat first | exact Del.head _ _ | apply Del.tail); done)) | apply Imp.drop)))
      | exact flat_len _
      | exact (rfl : (44 : Nat) = 44)
      | exact trivial
      | refine T.pl 5 [13] (.p 0 (.p 1 (.p 2 (.p 5 (.p 6 (.p 7 (.p 8 (.p 9 (.d 3 (.d 4 (.p 10 (.p 11 (.d 12 (.n 13 .fin)))))))))))))) ?_
      | refine T.pl 7 [] (.p 0 (.p 1 (.d 2 (.d 3 (.p 4 (.p 5 (.p 6 (.p 7 (.d 8 (.d 9 (.p 10 (.p 11 (.p 12 (.p 13 (.p 14 (.p 15 (.p 19 (.p 20 (.p 26 (.p 27 (.d 16 (.d 17 (.p 18 (.d 21 (.d 22 (.p 23 (.p 24 (.p 25 (.d 28 (.d 29 (.p 30 (.p 31 (.p 32 (.p 33 (.p 34 (.p 35 .fin)))))))))))))))))))))))))))))))))))) ?_
      | refine T.pl 8 [12, 13] (.p 0 (.p 1 (.p 2 (.p 6 (.p 7 (.d 3 (.d 4 (.p 5 (.d 8 (.d 9 (.p 10 (.p 11 (.n 12 (.n 13 (.p 14 .fin))))))))))))))) ?_
      | refine T.pl 10 [] (.p 0 (.p 1 (.p 2 (.p 5 (.d 3 (.d 4 (.p 6 .fin))))))) ?_
      | refine And.intro (fun hc => ?_) (fun hc => ?_)
      | refine And.intro ?_ ?_
      | intro b
      | refine stp ?_
      | refine TQ.finC ?_
      | refine TQ.finC2 ?_
      | refine TQ.finC3 ?_
      | refine ⟨fun hc => ?_, fun hc => ?_⟩
      | refine Ei.f ?_
      | refine ⟨?_, ?_⟩
      | intro b
      | omega
      | (dsimp only; omega)
      | (simp only [List.length_append, List.length_replicate, List.length_cons, List.length_nil] <;> omega)
      | fail)

end Go.Proofs.YthbpjjlinebooaaDoor

