/- Lemmas for the proofs of this seat: no statement of the seat is claimed here. -/
import Derived.Test.YthbpjjlinebooaaDoorRd
set_option linter.all false

namespace Go.Proofs.YthbpjjlinebooaaDoor
open Go Pw
set_option maxRecDepth 20000
set_option maxHeartbeats 4000000
set_option synthInstance.maxHeartbeats 400000
set_option synthInstance.maxSize 4000
set_option maxHeartbeats 2000000

class Prt (o n : Nat) (cs : List Value) (us : outParam (List Value)) : Prop where
  h : ∀ i v, us[i]? = some v → cs[o + i]? = some v
  l : us.length = n
instance {cs : List Value} : Prt 0 0 cs [] := ⟨fun i v h => (by cases h), rfl⟩
instance {n : Nat} {c : Value} {cs us : List Value} [h : Prt 0 n cs us] : Prt 0 (n + 1) (c :: cs) (c :: us) := ⟨fun i v hv => by
  cases i with
  | zero => exact hv
  | succ i => have := h.h i v hv; rw [Nat.zero_add] at this ⊢; exact this, by rw [List.length_cons, h.l]⟩
instance {o n : Nat} {c : Value} {cs us : List Value} [h : Prt o n cs us] : Prt (o + 1) n (c :: cs) us := ⟨fun i v hv => by
  rw [show o + 1 + i = (o + i) + 1 by omega]; exact h.h i v hv, h.l⟩
instance (priority := 400) partLoad {c : Ctx} {L : List Assn} {P : Program} {t e : TypeId} {b o s : Nat} {cs us : List Value} [hp : Ag P t] [hz : Sz P t s] [hr : RowAt L b e cs] [hu : Prt o (s + 1) cs us] : Re P c L (.load t (.pointer (some ⟨b, o, none⟩))) (fun k => k (.agg us.toArray)) :=
  ⟨fun E d op ty pos af g hs k hk => by cases hs with | load e1 => exact ⟨_, D.ldRM e1 hp.h hz.h hr.h hu.h hu.l, hk⟩⟩
theorem nonce_spec (p ct mo : Nat) (key : List UInt8) (i0 i1 i2 i3 i4 i5 i6 i7 i8 i9 i10 i11 : UInt8) (hct : ct < 18446744073709551616) :
    Sat Tryd.prog 39 [.pointer (some ⟨p, 0, none⟩)] [Pw.row 87 p [str key, byteV i0, byteV i1, byteV i2, byteV i3, byteV i4, byteV i5, byteV i6, byteV i7, byteV i8, byteV i9, byteV i10, byteV i11, .int .u64 (ct : Nat), .int .u64 (mo : Nat)]] (fun u L' => u = str (nonE [i0, i1, i2, i3, i4, i5, i6, i7, i8, i9, i10, i11] ct) ∧ L' = [Pw.row 87 p [str key, byteV i0, byteV i1, byteV i2, byteV i3, byteV i4, byteV i5, byteV i6, byteV i7, byteV i8, byteV i9, byteV i10, byteV i11, .int .u64 (ct : Nat), .int .u64 (mo : Nat)]]) := by
  all_goals
    refine Sat.enter Tryd.func39 rfl Tryd.ntmps39 rfl (fun c R => ?_)
    try simp only [List.cons_append, List.nil_append]
    repeat' (first
      | (refine T.atB 0 ?_; refine T.ent (Ent.imp (show Imp _ (Pw.row 85 b (([i0, i1, i2, i3, i4, i5, i6, i7, i8, i9, i10, i11] : List UInt8).map byteV) :: _) from Imp.refl _)) ?_; refine T.lpa 0 [(0, _), (3, _)] ((0, [i0, i1, i2, i3, i4, i5, i6, i7, i8, i9, i10, i11]) : Nat × List UInt8) (fun z => [(9, .int .i64 (z.1 : Nat))]) (fun z => [Pw.row 85 b (z.2.map byteV)]) (fun z => z.1 ≤ 8 ∧ z.2 = nonS [i0, i1, i2, i3, i4, i5, i6, i7, i8, i9, i10, i11] ct z.1) (fun z => 8 - z.1) ⟨Nat.zero_le _, rfl⟩ ?_; rintro ⟨i, ys⟩ g ⟨hI, hy⟩; dsimp only at hI hy ⊢; have hyl : ys.length = 12 := (by rw [hy, nonS_len]; rfl); have hb4 := (gt ys (4 + i)).toNat_lt; simp only [List.cons_append, List.nil_append, appR])
      | (refine TQ.atL ?_; refine TQ.rd ((i + 1, _) : Nat × List UInt8) rfl ⟨rfl, rfl, rfl, trivial⟩ ⟨by dsimp only; omega, ?_⟩ (by dsimp only; omega) (Ent.imp (by repeat first | exact Imp.refl _ | (apply Imp.pull; focus ((repeat first | exact Del.head _ _ | apply Del.tail); done)) | apply Imp.drop)); dsimp only; rw [nonS, hy])
      | (have e8 : i = 8 := (by omega); subst e8; exact Fini.mk ⟨by rw [hy]; rfl, rfl⟩)
      | (exact xor256 (UInt8.toNat_lt _) (Nat.mod_lt _ (by decide)))
      | (exact Nat.lt_of_lt_of_le (xor256 (UInt8.toNat_lt _) (Nat.mod_lt _ (by decide))) (by decide))
      | (exact Nat.lt_of_le_of_lt (Nat.div_le_self _ _) hct)
      | exact UInt8.toNat_lt _
      | exact Nat.mod_lt _ (by decide)
      | refine T.pl 5 [16] (.p 0 (.p 1 (.p 2 (.p 4 (.p 5 (.p 8 (.p 9 (.p 10 (.p 11 (.d 3 (.d 6 (.d 7 (.p 12 (.p 13 (.p 14 (.p 15 (.n 16 .fin))))))))))))))))) ?_
      | refine And.intro (fun hc => ?_) (fun hc => ?_)
      | refine And.intro ?_ ?_
      | intro b
      | refine stp ?_
      | refine TQ.finC ?_
      | refine TQ.finC2 ?_
      | refine TQ.finC3 ?_
      | refine ⟨fun hc => ?_, fun hc => ?_⟩
      | refine Ei.f ?_
      | refine ⟨?_, ?_⟩
      | intro b
      | omega
      | (dsimp only; omega)
      | fail)
instance {L R : List Assn} {p ct mo : Nat} {x y : Int} {key : List UInt8} {i0 i1 i2 i3 i4 i5 i6 i7 i8 i9 i10 i11 : UInt8} [hx : Nn x ct] [hy : Nn y mo] [hd : RowDel L p 87 [str key, byteV i0, byteV i1, byteV i2, byteV i3, byteV i4, byteV i5, byteV i6, byteV i7, byteV i8, byteV i9, byteV i10, byteV i11, .int .u64 x, .int .u64 y] R] : FnR Tryd.prog 39 [.pointer (some ⟨p, 0, none⟩)] L (fun q => Vc (ct < 18446744073709551616) (q (str (nonE [i0, i1, i2, i3, i4, i5, i6, i7, i8, i9, i10, i11] ct)) (Pw.row 87 p [str key, byteV i0, byteV i1, byteV i2, byteV i3, byteV i4, byteV i5, byteV i6, byteV i7, byteV i8, byteV i9, byteV i10, byteV i11, .int .u64 (ct : Nat), .int .u64 (mo : Nat)] :: R))) :=
  ⟨fun q h => ⟨_, R, _, nonce_spec p ct mo key i0 i1 i2 i3 i4 i5 i6 i7 i8 i9 i10 i11 h.l, Pick.of1 (by have := hd.h; rw [hx.h, hy.h] at this; exact this), fun v L' hq => by rw [hq.1, hq.2]; exact h.r⟩⟩

end Go.Proofs.YthbpjjlinebooaaDoor


namespace Go.Proofs.YthbpjjlinebooaaDoor
open Go Pw
set_option maxRecDepth 20000
set_option maxHeartbeats 4000000
set_option synthInstance.maxHeartbeats 400000
set_option synthInstance.maxSize 4000
set_option maxHeartbeats 2000000
/-- Whether a half may be made. -/
def mayE (key iv : List UInt8) (m : Nat) : Prop := key.length = 32 ∧ iv.length = 12 ∧ 1 ≤ m ∧ m ≤ 4294967296
theorem rnew_spec (key iv : List UInt8) (m : Nat) (hm : m < 18446744073709551616) (hk : key.length < 4611686018427387904) (hi : iv.length < 4611686018427387904) :
    Sat Tryd.prog 18 [.agg #[str key, str iv], .int .u64 (m : Nat)] [] (fun u L' => (mayE key iv m ∧ ∃ p, u = asResult [.pointer (some ⟨p, 0, none⟩), .int .i64 (0 : Nat)] ∧ L' = [Pw.row 70 p [str key, str iv, .int .u64 (0 : Nat), .int .u64 (m : Nat)]]) ∨ (¬ mayE key iv m ∧ u = asResult [.pointer none, .int .i64 (2 : Nat)] ∧ L' = [])) := by
  all_goals
    refine Sat.enter Tryd.func18 rfl Tryd.ntmps18 rfl (fun c R => ?_)
    try simp only [List.cons_append, List.nil_append]
    repeat' (first
      | (exact Fini.of (.inl ⟨by unfold mayE; omega, _, rfl, rfl⟩) (by repeat first | exact Imp.refl _ | (apply Imp.pull; focus ((repeat first | exact Del.head _ _ | apply Del.tail); done)) | apply Imp.drop))
      | (exact Fini.of (.inr ⟨by unfold mayE; omega, rfl, rfl⟩) (by repeat first | exact Imp.refl _ | (apply Imp.pull; focus ((repeat first | exact Del.head _ _ | apply Del.tail); done)) | apply Imp.drop))
      | refine And.intro (fun hc => ?_) (fun hc => ?_)
      | refine And.intro ?_ ?_
      | intro b
      | refine stp ?_
      | refine TQ.finC ?_
      | refine TQ.finC2 ?_
      | refine TQ.finC3 ?_
      | refine ⟨fun hc => ?_, fun hc => ?_⟩
      | refine Ei.f ?_
      | refine ⟨?_, ?_⟩
      | intro b
      | omega
      | (dsimp only; omega)
      | fail)

end Go.Proofs.YthbpjjlinebooaaDoor


namespace Go.Proofs.YthbpjjlinebooaaDoor
open Go Pw
set_option maxRecDepth 20000
set_option maxHeartbeats 4000000
set_option synthInstance.maxHeartbeats 400000
set_option synthInstance.maxSize 4000
set_option maxHeartbeats 2000000

instance s2aP {P : Program} {t e : TypeId} {a : Option Addr} {n k len : Nat} [hu : Und P t (.array len e)] : Pu P (.s2a t (.slice a n k)) (fun q => Vc (len ≤ n) (q (.pointer a))) :=
  ⟨fun E d op ty pos af g hr k hk => by cases hr with | s2a e1 => exact ⟨_, DP.s2a e1 hu.h hk.l, hk.r⟩⟩
class Lit (xs : List Value) (ys : outParam (List Value)) : Prop where h : xs = ys
instance {f : UInt8 → Value} : Lit (List.map f []) [] := ⟨rfl⟩
instance {f : UInt8 → Value} {c : UInt8} {l : List UInt8} {ys : List Value} [h : Lit (List.map f l) ys] : Lit (List.map f (c :: l)) (f c :: ys) := ⟨by rw [List.map_cons, h.h]⟩
instance (priority := 300) arrLoad {c : Ctx} {L R : List Assn} {P : Program} {t e : TypeId} {b n k sz s : Nat} {xs ys : List Value} [hp : Ag P t] [hz : Sz P t s] [hr : ElAt L (some ⟨b, 0, none⟩) e sz n k xs R] [hy : Lit xs ys] : Re P c L (.load t (.pointer (some ⟨b, 0, none⟩))) (fun q => Vc (xs.length = s + 1) (q (.agg ys.toArray))) :=
  ⟨fun E d op ty pos af g hs k hk => by cases hs with | load e1 => exact ⟨_, D.ldEA (a := some ⟨b, 0, none⟩) (j := 0) e1 hp.h hz.h (Del.lmem hr.h) (fun i u hu => by rw [Nat.zero_add, hy.h]; exact hu) (by rw [← hy.h]; exact hk.l), hk.r⟩⟩
theorem new_spec (key : List UInt8) (i0 i1 i2 i3 i4 i5 i6 i7 i8 i9 i10 i11 : UInt8) (m : Nat) (hk : key.length = 32) (hm : 1 ≤ m) (hm2 : m ≤ 4294967296) :
    Sat Tryd.prog 17 [.agg #[str key, str [i0, i1, i2, i3, i4, i5, i6, i7, i8, i9, i10, i11]], .int .u64 (m : Nat)] [] (fun u L' => ∃ p, u = asResult [.pointer (some ⟨p, 0, none⟩), .int .i64 (0 : Nat)] ∧ L' = [Pw.row 87 p [str key, byteV i0, byteV i1, byteV i2, byteV i3, byteV i4, byteV i5, byteV i6, byteV i7, byteV i8, byteV i9, byteV i10, byteV i11, .int .u64 (0 : Nat), .int .u64 (m : Nat)]]) := by
  all_goals
    refine Sat.enter Tryd.func17 rfl Tryd.ntmps17 rfl (fun c R => ?_)
    try simp only [List.cons_append, List.nil_append]
    repeat' (first
      | (exact Fini.of ⟨_, rfl, rfl⟩ (by repeat first | exact Imp.refl _ | (apply Imp.pull; focus ((repeat first | exact Del.head _ _ | apply Del.tail); done)) | apply Imp.drop))
      | (exact absurd rfl hc)
      | (exact absurd hk hc)
      | (exact absurd hc (Bool.false_ne_true : ¬ false = true))
      | exact Nat.le_refl 12
      | exact (rfl : (12 : Nat) = 12)
      | refine T.pl 3 [4, 9] (.p 7 (.d 2 (.d 3 (.p 0 (.b2 1 (.n 4 (.p 5 (.d 6 (.p 8 (.n 9 (.p 10 (.p 11 .fin))))))) 4 (.p 5 (.d 1 (.d 6 (.p 8 (.n 9 (.p 10 (.p 11 .fin)))))))))))) ?_
      | refine And.intro (fun hc => ?_) (fun hc => ?_)
      | refine And.intro ?_ ?_
      | intro b
      | refine stp ?_
      | refine TQ.finC ?_
      | refine TQ.finC2 ?_
      | refine TQ.finC3 ?_
      | refine ⟨fun hc => ?_, fun hc => ?_⟩
      | refine Ei.f ?_
      | refine ⟨?_, ?_⟩
      | intro b
      | omega
      | (dsimp only; omega)
      | fail)

end Go.Proofs.YthbpjjlinebooaaDoor


namespace Go.Proofs.YthbpjjlinebooaaDoor
open Go Pw
set_option maxRecDepth 20000
set_option maxHeartbeats 4000000
set_option synthInstance.maxHeartbeats 400000
set_option synthInstance.maxSize 4000
set_option maxHeartbeats 2000000
theorem new_bad (key iv : List UInt8) (m : Nat) (hm : m < 18446744073709551616) (hk : key.length < 4611686018427387904) (hi : iv.length < 4611686018427387904) (hn : ¬ mayE key iv m) :
    Sat Tryd.prog 17 [.agg #[str key, str iv], .int .u64 (m : Nat)] [] (fun u L' => u = asResult [.pointer none, .int .i64 (2 : Nat)] ∧ L' = []) := by
  all_goals
    refine Sat.enter Tryd.func17 rfl Tryd.ntmps17 rfl (fun c R => ?_)
    try simp only [List.cons_append, List.nil_append]
    repeat' (first
      | (refine T.atR 3 ?_; exact absurd (by unfold mayE; omega) hn)
      | (exact Fini.of ⟨rfl, rfl⟩ (by repeat first | exact Imp.refl _ | (apply Imp.pull; focus ((repeat first | exact Del.head _ _ | apply Del.tail); done)) | apply Imp.drop))
      | refine T.pl 3 [4, 9] (.p 7 (.d 2 (.d 3 (.p 0 (.b2 1 (.n 4 (.p 5 (.d 6 (.p 8 (.n 9 (.p 10 (.p 11 .fin))))))) 4 (.p 5 (.d 1 (.d 6 (.p 8 (.n 9 (.p 10 (.p 11 .fin)))))))))))) ?_
      | refine And.intro (fun hc => ?_) (fun hc => ?_)
      | refine And.intro ?_ ?_
      | intro b
      | refine stp ?_
      | refine TQ.finC ?_
      | refine TQ.finC2 ?_
      | refine TQ.finC3 ?_
      | refine ⟨fun hc => ?_, fun hc => ?_⟩
      | refine Ei.f ?_
      | refine ⟨?_, ?_⟩
      | intro b
      | omega
      | (dsimp only; omega)
      | fail)

end Go.Proofs.YthbpjjlinebooaaDoor


namespace Go.Proofs.YthbpjjlinebooaaDoor
open Go Pw
set_option maxRecDepth 20000
set_option maxHeartbeats 4000000
set_option synthInstance.maxHeartbeats 400000
set_option synthInstance.maxSize 4000
attribute [local irreducible] fltE lngE takeE fedE
instance {L R1 R2 : List Assn} {p n k f : Nat} {a : Option Addr} {bs s : List UInt8} {x : Int} [hx : Nn x f] [h1 : RowDel L p 80 [.slice a n k, .int .i64 x, .bool true] R1] [h2 : SlAt R1 (.slice a n k) 5 1 n (bs.map byteV) R2] : FnR Tryd.prog 11 [.pointer (some ⟨p, 0, none⟩), str s] L (fun q => Vc (bs.length = n ∧ f < 9223372036854775808 ∧ (f = 0 → bs.length < 65541) ∧ s.length < 1099511627776) (∀ a k a2, q (asResult [.slice a2 (fedE (bs, f, []) s).2.2.length (fedE (bs, f, []) s).2.2.length, .int .i64 ((fedE (bs, f, []) s).2.1 : Nat)]) (Pw.row 80 p [.slice a (fedE (bs, f, []) s).1.length k, .int .i64 ((fedE (bs, f, []) s).2.1 : Nat), .bool true] :: sl 5 1 (.slice a (fedE (bs, f, []) s).1.length k) (fedE (bs, f, []) s).1.length ((fedE (bs, f, []) s).1.map byteV) :: rdL 44 2 (.slice a2 (fedE (bs, f, []) s).2.2.length (fedE (bs, f, []) s).2.2.length) (fedE (bs, f, []) s).2.2.length ((fedE (bs, f, []) s).2.2.flatMap recV) :: R2))) :=
  ⟨fun q h => by
    obtain ⟨⟨hl, hf, hb, hs⟩, hq⟩ := h
    refine ⟨_, R2, _, feed_spec p n k f a bs s hl hf hb hs, .cons (by have := h1.h; rw [hx.h] at this; exact this) (.cons h2.h (.nil _)), fun v L' hv => ?_⟩
    obtain ⟨a', k', a2, hv1, hv2⟩ := hv
    rw [hv1, hv2]
    exact hq a' k' a2⟩

end Go.Proofs.YthbpjjlinebooaaDoor

