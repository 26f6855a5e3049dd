/- Lemmas for the proofs of this seat: no statement of the seat is claimed here. -/
import Derived.Test.YthbpjjlinebooaaDoorRj
import Derived.Test.YthbpjjlinebooaaDoorRm
set_option linter.all false

namespace Go.Proofs.YthbpjjlinebooaaDoor
open Go Pw
set_option maxRecDepth 20000
set_option maxHeartbeats 4000000
set_option synthInstance.maxHeartbeats 400000
set_option synthInstance.maxSize 4000
set_option maxHeartbeats 2000000

instance : FLen recV (no_index 2) := ⟨fun _ => rfl⟩
instance (priority := 650) {P : Program} {c : Ctx} {L : List Assn} {t ft e : TypeId} {a : Option Addr} {j k fo n m q sz j' : Nat} {xs : List Value} {fs : List Field} {nm tg pk : String} {em : Bool} {bo : Nat} [ht : Und P t (.struct fs.toArray)] [hf : GL fs k ⟨nm, ft, fo, em, tg, pk, bo⟩] [hz : Sz P ft m] [hr : RdAt L a e sz n q xs] [hj : FoA j fo j'] : Re P c L (.fieldAddr t (.pointer (eA a j)) k) (fun z => Vc (0 < n) (z (.pointer (eA a j')))) :=
  ⟨fun E d op ty pos af g hs z hq => by
    cases hs with | fieldAddr e1 =>
    refine ⟨_, D.rdW hr.h (fun w hw => ?_) (fun _ => by simp), hq.r⟩
    rcases hw with ⟨h0, _⟩ | ⟨b, rfl, _, _⟩
    · have := hq.l; omega
    · rw [eA_some] at e1
      have e : (eA (some ⟨b, 0, none⟩) j') = some ⟨b, (0 + j) + fo, none⟩ := by rw [eA_some, ← hj.h, Nat.add_assoc]
      rw [e]
      exact (by have := DP.fa (E := E) (P := P) (d := d) (ty := ty) (pos := pos) (af := af) (g := g) fo e1 ht.h (by have := hf.h; simpa using this) rfl hz.h; unfold DP at this; exact this.2 w)⟩
instance (priority := 650) {P : Program} {c : Ctx} {L : List Assn} {t e : TypeId} {a : Option Addr} {j n k sz : Nat} {xs : List Value} {v : Value} {C : Prop} [hp : Pl P t] [hr : RdAt L a e sz n k xs] [hv : ElV xs j v C] : Re P c L (.load t (.pointer (eA a j))) (fun q => Vc (C ∧ 0 < n) (q v)) :=
  ⟨fun E d op ty pos af g hs q hq => by
    cases hs with | load e1 =>
    refine ⟨_, D.rdW hr.h (fun w hw => ?_) (fun _ => by simp), hq.r⟩
    rcases hw with ⟨h0, _⟩ | ⟨b, rfl, _, hc0⟩
    · have := hq.l.2; omega
    · rw [eA_some] at e1
      have hc := hc0 j v (hv.h hq.l.1)
      simp [execOp, e1, Instr.loadAt, Instr.sureAddr, loadVar, Pw.run_isAgg_plain hp.h, hc]⟩
theorem fed_beg {c : List UInt8} (h : c.length ≤ 16640) : fedE ([], 0, []) (begE 23 c.length ++ c) = ([], 0, [(23, c)]) :=
  fed_rec (k := UInt8.ofNat 23) 3 (UInt8.ofNat (c.length / 2 ^ 8 % 256)) (UInt8.ofNat (c.length % 256)) c (by decide) (lng5 (by omega)) h (.inl rfl)
attribute [local irreducible] fedE sealH openH begE
theorem back_bad (key iv : List UInt8) (hkl : key.length < 4611686018427387904) (hil : iv.length < 4611686018427387904) (hbad : ¬ (key.length = 32 ∧ iv.length = 12)) (rs : List (Nat × List UInt8)) (ps : List Nat) (h : Array Obj) (a a2 : Option Addr) (k k2 : Nat) [hI1 : InpC h quO a 2 rs.length k (rs.flatMap recV)] [hI2 : InpC h quO a2 1 ps.length k2 (ps.flatMap u8V)] (hr : ∀ j, (gt rs j).1 < 256 ∧ (gt rs j).2.length < 4611686018427387904) (hp : ∀ j, gt ps j < 256) (hrl : rs.length < 4611686018427387904) (hpl : ps.length < 4611686018427387904) :
    Sat Tryd.prog 6 [.agg #[str key, str iv], .slice a rs.length k, .slice a2 ps.length k2] [quA, oldX h] (fun u L' => u = .bool true ∧ L' = [quA, oldX h]) := by
  all_goals
    refine Sat.enter Tryd.func6 rfl Tryd.ntmps6 rfl (fun c R => ?_)
    try simp only [List.cons_append, List.nil_append]
    repeat' (first
      | (refine T.atR 3 ?_; exact absurd (by omega) hbad)
      | exact absurd rfl hc
      | exact absurd rfl (of_decide_eq_true hc)
      | (exact Fini.of ⟨rfl, rfl⟩ (by repeat first | exact Imp.refl _ | (apply Imp.pull; focus ((repeat first | exact Del.head _ _ | apply Del.tail); done)) | apply Imp.drop))
      | (exact Fini.of ⟨congrArg Value.bool (decide_eq_true rfl), rfl⟩ (by repeat first | exact Imp.refl _ | (apply Imp.pull; focus ((repeat first | exact Del.head _ _ | apply Del.tail); done)) | apply Imp.drop))
      | exact absurd hc (by decide)
      | exact absurd (by omega) hc
      | refine T.pl 21 [] (.p 0 (.p 1 (.p 2 (.p 4 (.p 5 (.d 3 (.d 6 (.d 7 (.p 8 (.p 9 .fin)))))))))) ?_
      | refine And.intro (fun hc => ?_) (fun hc => ?_)
      | refine And.intro ?_ ?_
      | intro b
      | refine stp ?_
      | refine TQ.finC ?_
      | refine TQ.finC2 ?_
      | refine TQ.finC3 ?_
      | refine ⟨fun hc => ?_, fun hc => ?_⟩
      | refine Ei.f ?_
      | refine ⟨?_, ?_⟩
      | intro b
      | omega
      | (dsimp only; omega)
      | (simp only [List.length_append, List.length_replicate, List.length_cons, List.length_nil] <;> omega)
      | fail)
theorem back_may (key : List UInt8) (i0 i1 i2 i3 i4 i5 i6 i7 i8 i9 i10 i11 : UInt8) (hk : key.length = 32) (rs : List (Nat × List UInt8)) (ps : List Nat) (h : Array Obj) (a a2 : Option Addr) (k k2 : Nat) [hI1 : InpC h quO a 2 rs.length k (rs.flatMap recV)] [hI2 : InpC h quO a2 1 ps.length k2 (ps.flatMap u8V)] (hr : ∀ j, (gt rs j).1 < 256 ∧ (gt rs j).2.length < 4611686018427387904) (hp : ∀ j, gt ps j < 256) (hrl : rs.length < 4611686018427387904) (hpl : ps.length < 4611686018427387904) :
    Sat Tryd.prog 6 [.agg #[str key, str [i0, i1, i2, i3, i4, i5, i6, i7, i8, i9, i10, i11]], .slice a rs.length k, .slice a2 ps.length k2] [quA, oldX h] (fun u L' => u = .bool true ∧ L' = [quA, oldX h]) := by
  all_goals
    refine Sat.enter Tryd.func6 rfl Tryd.ntmps6 rfl (fun c R => ?_)
    try simp only [List.cons_append, List.nil_append]
    repeat' (first
      | (refine T.atB 0 ?_; rename_i pa pb; obtain ⟨pr, hpr⟩ : ∃ x, x = b := ⟨_, rfl⟩; subst hpr; refine T.lpa 0 [(1, _), (2, _), (7, _), (9, _), (11, _)] ((0, (none, 0)) : Nat × (Option Addr × Nat)) (fun z => [(12, .int .i64 (z.1 : Nat))]) (fun z => [Pw.row 87 pa [str key, byteV i0, byteV i1, byteV i2, byteV i3, byteV i4, byteV i5, byteV i6, byteV i7, byteV i8, byteV i9, byteV i10, byteV i11, .int .u64 (z.1 : Nat), .int .u64 (100 : Nat)], Pw.row 87 pb [str key, byteV i0, byteV i1, byteV i2, byteV i3, byteV i4, byteV i5, byteV i6, byteV i7, byteV i8, byteV i9, byteV i10, byteV i11, .int .u64 (z.1 : Nat), .int .u64 (100 : Nat)], Pw.row 80 pr [.slice z.2.1 ([] : List UInt8).length z.2.2, .int .i64 (0 : Nat), .bool true], sl 5 1 (.slice z.2.1 ([] : List UInt8).length z.2.2) ([] : List UInt8).length (([] : List UInt8).map byteV)]) (fun z => z.1 ≤ rs.length) (fun z => rs.length - z.1) (Nat.zero_le _) ?_; rintro ⟨i, ⟨a1, k1⟩⟩ g hI; dsimp only at hI ⊢; have hri := hr i; have hpi := hp i; simp only [List.cons_append, List.nil_append, appR])
      | (refine T.atR 17 ?_; obtain ⟨c9, hS, hcl, hO⟩ := seals_opens (key := key) (iv := [i0, i1, i2, i3, i4, i5, i6, i7, i8, i9, i10, i11]) (t := (gt rs i).2) (ct := i) (mo := 100) (k := (gt rs i).1) (pad := gt ps i) hk rfl (by omega) (by omega) (by first | exact .inl (by omega) | exact .inr ‹_›) (by omega) (by omega); simp only [hS]; refine Hold.h ?_)
      | (refine T.atR 17 ?_; obtain ⟨c9, hS, hcl, hO⟩ := seals_opens (key := key) (iv := [i0, i1, i2, i3, i4, i5, i6, i7, i8, i9, i10, i11]) (t := (gt rs i).2) (ct := i) (mo := 100) (k := (gt rs i).1) (pad := 0) hk rfl (by omega) (by omega) (by first | exact .inl (by omega) | exact .inr ‹_›) (by omega) (by omega); have hS0 : sealH key [i0, i1, i2, i3, i4, i5, i6, i7, i8, i9, i10, i11] i 100 (gt rs i).1 (gt rs i).2 (0 : Int) = _ := hS; simp only [hS0]; refine Hold.h ?_)
      | (refine Vc.mk ⟨hk, by omega, by omega⟩ ?_)
      | (refine Vc.mk ⟨hk, by omega, by omega, by omega, by omega, by omega, by omega, by omega⟩ ?_)
      | (refine Vc.mk ⟨rfl, by omega, fun _ => by decide, by rw [List.length_append, begE_len]; omega⟩ ?_)
      | (refine Vc.mk ⟨by omega, by omega, by omega, (show c9.length < _ by omega)⟩ ?_)
      | exact absurd rfl hc
      | exact absurd rfl (of_decide_eq_true hc)
      | (exact Fini.of ⟨rfl, rfl⟩ (by repeat first | exact Imp.refl _ | (apply Imp.pull; focus ((repeat first | exact Del.head _ _ | apply Del.tail); done)) | apply Imp.drop))
      | (exact Fini.of ⟨congrArg Value.bool (decide_eq_true rfl), rfl⟩ (by repeat first | exact Imp.refl _ | (apply Imp.pull; focus ((repeat first | exact Del.head _ _ | apply Del.tail); done)) | apply Imp.drop))
      | exact absurd hc (by decide)
      | exact absurd (by omega) hc
      | refine T.pl 21 [] (.p 0 (.p 1 (.p 2 (.p 4 (.p 5 (.d 3 (.d 6 (.d 7 (.p 8 (.p 9 .fin)))))))))) ?_
      | refine And.intro (fun hc => ?_) (fun hc => ?_)
      | refine And.intro ?_ ?_
      | intro b
      | refine stp ?_
      | refine TQ.finC ?_
      | refine TQ.finC2 ?_
      | refine TQ.finC3 ?_
      | refine ⟨fun hc => ?_, fun hc => ?_⟩
      | refine Ei.f ?_
      | refine ⟨?_, ?_⟩
      | intro b
      | omega
      | (dsimp only; omega)
      | (simp only [List.length_append, List.length_replicate, List.length_cons, List.length_nil] <;> omega)
      |  fail)
    all_goals try refine Hold.mk ?_
    repeat' (first
      | (refine T.atR 18 ?_; simp only [fed_beg (show c9.length ≤ 16640 by omega)]; refine Hold.h ?_)
      | (refine Vc.mk ⟨hk, by omega, by omega⟩ ?_)
      | (refine Vc.mk ⟨hk, by omega, by omega, by omega, by omega, by omega, by omega, by omega⟩ ?_)
      | (refine Vc.mk ⟨rfl, by omega, fun _ => by decide, by rw [List.length_append, begE_len]; omega⟩ ?_)
      | (refine Vc.mk ⟨by omega, by omega, by omega, (show c9.length < _ by omega)⟩ ?_)
      | exact absurd rfl hc
      | exact absurd rfl (of_decide_eq_true hc)
      | (exact Fini.of ⟨rfl, rfl⟩ (by repeat first | exact Imp.refl _ | (apply Imp.pull; focus ((repeat first | exact Del.head _ _ | apply Del.tail); done)) | apply Imp.drop))
      | (exact Fini.of ⟨congrArg Value.bool (decide_eq_true rfl), rfl⟩ (by repeat first | exact Imp.refl _ | (apply Imp.pull; focus ((repeat first | exact Del.head _ _ | apply Del.tail); done)) | apply Imp.drop))
      | exact absurd hc (by decide)
      | exact absurd (by omega) hc
      | refine T.pl 21 [] (.p 0 (.p 1 (.p 2 (.p 4 (.p 5 (.d 3 (.d 6 (.d 7 (.p 8 (.p 9 .fin)))))))))) ?_
      | refine And.intro (fun hc => ?_) (fun hc => ?_)
      | refine And.intro ?_ ?_
      | intro b
      | refine stp ?_
      | refine TQ.finC ?_
      | refine TQ.finC2 ?_
      | refine TQ.finC3 ?_
      | refine ⟨fun hc => ?_, fun hc => ?_⟩
      | refine Ei.f ?_
      | refine ⟨?_, ?_⟩
      | intro b
      | omega
      | (dsimp only; omega)
      | (simp only [List.length_append, List.length_replicate, List.length_cons, List.length_nil] <;> omega)
      |  fail)
    all_goals try refine Hold.mk ?_
    repeat' (first
      | (refine T.atR 21 ?_; simp only [show gt [(23, c9)] 0 = (23, c9) from rfl, hO]; refine Hold.h ?_)
      | (refine Vc.mk ⟨hk, by omega, by omega⟩ ?_)
      | (refine Vc.mk ⟨hk, by omega, by omega, by omega, by omega, by omega, by omega, by omega⟩ ?_)
      | (refine Vc.mk ⟨rfl, by omega, fun _ => by decide, by rw [List.length_append, begE_len]; omega⟩ ?_)
      | (refine Vc.mk ⟨by omega, by omega, by omega, (show c9.length < _ by omega)⟩ ?_)
      | exact absurd rfl hc
      | exact absurd rfl (of_decide_eq_true hc)
      | (exact Fini.of ⟨rfl, rfl⟩ (by repeat first | exact Imp.refl _ | (apply Imp.pull; focus ((repeat first | exact Del.head _ _ | apply Del.tail); done)) | apply Imp.drop))
      | (exact Fini.of ⟨congrArg Value.bool (decide_eq_true rfl), rfl⟩ (by repeat first | exact Imp.refl _ | (apply Imp.pull; focus ((repeat first | exact Del.head _ _ | apply Del.tail); done)) | apply Imp.drop))
      | exact absurd hc (by decide)
      | exact absurd (by omega) hc
      | refine T.pl 21 [] (.p 0 (.p 1 (.p 2 (.p 4 (.p 5 (.d 3 (.d 6 (.d 7 (.p 8 (.p 9 .fin)))))))))) ?_
      | refine And.intro (fun hc => ?_) (fun hc => ?_)
      | refine And.intro ?_ ?_
      | intro b
      | refine stp ?_
      | refine TQ.finC ?_
      | refine TQ.finC2 ?_
      | refine TQ.finC3 ?_
      | refine ⟨fun hc => ?_, fun hc => ?_⟩
      | refine Ei.f ?_
      | refine ⟨?_, ?_⟩
      | intro b
      | omega
      | (dsimp only; omega)
      | (simp only [List.length_append, List.length_replicate, List.length_cons, List.length_nil] <;> omega)
      |  fail)
    all_goals try refine Hold.mk ?_
    repeat' (first
      | (refine TQ.atL ?_; refine TQ.rd ((i + 1, (_, _)) : Nat × (Option Addr × Nat)) rfl ⟨rfl, rfl, rfl, rfl, rfl, rfl, trivial⟩ ?_ ?_ (Ent.imp (by repeat first | exact Imp.refl _ | (apply Imp.pull; focus ((repeat first | exact Del.head _ _ | apply Del.tail); done)) | apply Imp.drop)))
      | (refine Vc.mk ⟨hk, by omega, by omega⟩ ?_)
      | (refine Vc.mk ⟨hk, by omega, by omega, by omega, by omega, by omega, by omega, by omega⟩ ?_)
      | (refine Vc.mk ⟨rfl, by omega, fun _ => by decide, by rw [List.length_append, begE_len]; omega⟩ ?_)
      | (refine Vc.mk ⟨by omega, by omega, by omega, (show c9.length < _ by omega)⟩ ?_)
      | exact absurd rfl hc
      | exact absurd rfl (of_decide_eq_true hc)
      | (exact Fini.of ⟨rfl, rfl⟩ (by repeat first | exact Imp.refl _ | (apply Imp.pull; focus ((repeat first | exact Del.head _ _ | apply Del.tail); done)) | apply Imp.drop))
      | (exact Fini.of ⟨congrArg Value.bool (decide_eq_true rfl), rfl⟩ (by repeat first | exact Imp.refl _ | (apply Imp.pull; focus ((repeat first | exact Del.head _ _ | apply Del.tail); done)) | apply Imp.drop))
      | exact absurd hc (by decide)
      | exact absurd (by omega) hc
      | refine T.pl 21 [] (.p 0 (.p 1 (.p 2 (.p 4 (.p 5 (.d 3 (.d 6 (.d 7 (.p 8 (.p 9 .fin)))))))))) ?_
      | refine And.intro (fun hc => ?_) (fun hc => ?_)
      | refine And.intro ?_ ?_
      | intro b
      | refine stp ?_
      | refine TQ.finC ?_
      | refine TQ.finC2 ?_
      | refine TQ.finC3 ?_
      | refine ⟨fun hc => ?_, fun hc => ?_⟩
      | refine Ei.f ?_
      | refine ⟨?_, ?_⟩
      | intro b
      | omega
      | (dsimp only; omega)
      | (simp only [List.length_append, List.length_replicate, List.length_cons, List.length_nil] <;> omega)
      | fail)
theorem back_spec (key iv : List UInt8) (hkl : key.length < 4611686018427387904) (hil : iv.length < 4611686018427387904) (rs : List (Nat × List UInt8)) (ps : List Nat) (h : Array Obj) (a a2 : Option Addr) (k k2 : Nat) [hI1 : InpC h quO a 2 rs.length k (rs.flatMap recV)] [hI2 : InpC h quO a2 1 ps.length k2 (ps.flatMap u8V)] (hr : ∀ j, (gt rs j).1 < 256 ∧ (gt rs j).2.length < 4611686018427387904) (hp : ∀ j, gt ps j < 256) (hrl : rs.length < 4611686018427387904) (hpl : ps.length < 4611686018427387904) : Sat Tryd.prog 6 [.agg #[str key, str iv], .slice a rs.length k, .slice a2 ps.length k2] [quA, oldX h] (fun u L' => u = .bool true ∧ L' = [quA, oldX h]) := by
  by_cases hb : key.length = 32 ∧ iv.length = 12
  · obtain ⟨hk, hi⟩ := hb
    obtain ⟨i0, i1, i2, i3, i4, i5, i6, i7, i8, i9, i10, i11, rfl⟩ := len12 hi
    exact back_may key i0 i1 i2 i3 i4 i5 i6 i7 i8 i9 i10 i11 hk rs ps h a a2 k k2 hr hp hrl hpl
  · exact back_bad key iv hkl hil hb rs ps h a a2 k k2 hr hp hrl hpl

end Go.Proofs.YthbpjjlinebooaaDoor

