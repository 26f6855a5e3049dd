/- Lemmas for the proofs of this seat: no statement of the seat is claimed here. -/
import Derived.Test.YthbpjjlinebooaaDoorRj
import Derived.Test.YthbpjjlinebooaaDoorRm
set_option linter.all false

namespace Go.Proofs.YthbpjjlinebooaaDoor
open Go Pw
set_option maxRecDepth 20000
set_option maxHeartbeats 4000000
set_option synthInstance.maxHeartbeats 400000
set_option synthInstance.maxSize 4000
set_option maxHeartbeats 4000000
/-- And with a number that is not below nought: some number that is not above it. -/
theorem DP.bandA {P : Program} {E : Env} {d : Option Tmp} {ty : TypeId} {pos : String} {af : Array Edge} {g : Option (Nat × Bool)} {k : IntKind} {x y : Operand} {z : Int} {b l : Nat} {t t' : TypeId} (hx : E.eval x = .int k z) (hy : E.eval y = .int k b) (hl : k.lim = l) (hb : b < l) : ∃ n : Nat, n ≤ b ∧ DP P E ⟨d, .binOp .and t x y t', ty, pos, af, g⟩ (.int k ((n : Nat) : Int)) := by
  subst hl
  have hB : b < 2 ^ k.bits := Nat.lt_of_lt_of_le hb (lim_le k)
  have hle : (BitVec.ofInt k.bits z &&& BitVec.ofInt k.bits (b : Int)).toNat ≤ b := by
    rw [ofInt_nat, BitVec.toNat_and, BitVec.toNat_ofNat, Nat.mod_eq_of_lt hB]
    exact Nat.and_le_right
  refine ⟨(BitVec.ofInt k.bits z &&& BitVec.ofInt k.bits (b : Int)).toNat, hle, ?_⟩
  unfold DP
  refine ⟨fun _ => by simp, fun w => ?_⟩
  have e : k.wrap (((BitVec.ofInt k.bits z &&& BitVec.ofInt k.bits (b : Int)).toNat : Nat) : Int) = (((BitVec.ofInt k.bits z &&& BitVec.ofInt k.bits (b : Int)).toNat : Nat) : Int) := wrap_nat (Nat.lt_of_le_of_lt hle hb)
  simp only [execOp, hx, hy, eqGuard_and, binOp_and, Op.intBits, e]; simp
instance (priority := 400) {P : Program} {k : IntKind} {x y : Int} {b l : Nat} {t : TypeId} [hl : Lim k l] [h2 : Nn y b] : Pu P (.bin .and t (.int k x) (.int k y)) (fun q => Vc (b < l) (∀ n : Nat, n ≤ b → q (.int k ((n : Nat) : Int)))) :=
  ⟨fun E d op ty pos af g hr q hk => by
    cases hr with | bin e1 e2 =>
    rw [h2.h] at e2
    obtain ⟨n, hn, hd⟩ := DP.bandA (d := d) (ty := ty) (pos := pos) (af := af) (g := g) e1 e2 hl.h hk.l
    exact ⟨_, hd, hk.r n hn⟩⟩

class OldDel (L : List Assn) (h : outParam (Array Obj)) (R : outParam (List Assn)) : Prop where h : Del (oldX h) L R
instance (priority := 1100) {L : List Assn} {h : Array Obj} : OldDel (oldX h :: L) h L := ⟨.head _ _⟩
instance {A : Assn} {L R : List Assn} {h : Array Obj} [k : OldDel L h R] : OldDel (A :: L) h (A :: R) := ⟨.tail k.h⟩
instance {L R R2 : List Assn} {h : Array Obj} {a : Option Addr} {n m n' k' : Nat} {l : List Stp} [hq : DelC quA L R] [ho : OldDel R h R2] [hI : InpC h quO a 6 n' k' (l.flatMap stpV)] : FnR Tryd.prog 16 [.slice a n m] L (fun q => Vc (n = n' ∧ m = k' ∧ n' = l.length ∧ (∀ j, (gt l j).ok) ∧ l.length < 4611686018427387904) (∀ b, (b = false → l.length ≤ 40 ∧ ∀ j < l.length, (gt l j).t.length ≤ 8192) → q (.bool b) (quA :: oldX h :: R2))) :=
  ⟨fun q hh => by
    obtain ⟨⟨rfl, rfl, rfl, h4, h5⟩, hk⟩ := hh
    exact ⟨_, R2, _, heavy_spec l h a m h4 h5, .cons hq.h (.cons ho.h (.nil _)), fun v L' hv => by
      obtain ⟨b, h1, h2, h3⟩ := hv
      rw [h1, h2]; exact hk b h3⟩⟩
theorem _root_.Pw.T.cutC {P : Program} {r : Rd} {c : Ctx} {L : List Assn} {Q : Exit → Env → Rd → World → Prop} (cd : Operand) {n : Nat} {l0 : List (Nat × Value)} {g0 : Nat → Value} {S : Type} {x1 x2 y : Code} (sl : S → List (Nat × Value)) (H : S → List Assn) (I : S → Prop)
    (h : T P r c L (.cond cd x1 x2) (cutQ r c n sl H I Q) ⟨n, l0, g0⟩) (k : ∀ s g, I s → T P r c (H s) y Q ⟨n, sl s, g⟩) : T P r c L (.cond cd x1 x2) (thenQ P r y Q) ⟨n, l0, g0⟩ := by
  unfold T at *
  intro w hw
  refine wpIn_mono (h w hw) ?_
  rintro e a w' ⟨E', r', rfl, hq⟩
  cases e with
  | normal =>
    obtain ⟨rfl, s, en, hh, hI, hw'⟩ := hq
    refine ⟨_, _, Env.acd_congr (E'.act_has (sl s) hh) _, ?_⟩
    rw [en]
    exact k s _ hI w' hw'
  | _ => exact ⟨E', r', rfl, hq⟩
theorem sealH_ct {key iv t : List UInt8} {ct mo k : Nat} {pad : Int} (h : ct ≤ mo) : (sealH key iv ct mo k t pad).2.2 ≤ mo := by
  unfold sealH; repeat' split
  all_goals (dsimp only; omega)
theorem openH_ct {key iv s : List UInt8} {ct mo : Nat} (h : ct ≤ mo) : (openH key iv ct mo s).2.2 ≤ mo := by
  unfold openH; repeat' split
  all_goals (dsimp only; omega)
theorem sealH_len {key iv t : List UInt8} {ct mo k : Nat} {pad : Int} (hk : key.length = 32) (hi : iv.length = 12) : ((sealH key iv ct mo k t pad).2.1 = 0 → 5 ≤ (sealH key iv ct mo k t pad).1.length) ∧ (sealH key iv ct mo k t pad).1.length ≤ 100000 := by
  unfold sealH; repeat' split
  · exact ⟨fun h => absurd h (by simp), by simp⟩
  · exact ⟨fun h => absurd h (by simp), by simp⟩
  · exact ⟨fun h => absurd h (by simp), by simp⟩
  · have hl := sealed_len (key := key) (iv := iv) (ct := ct) (s := t ++ [UInt8.ofNat k] ++ List.replicate pad.toNat 0) hk hi (by simp; omega)
    have hb := begE_len 23 (sealedE key iv ct (t ++ [UInt8.ofNat k] ++ List.replicate pad.toNat 0)).length
    dsimp only
    rw [List.length_append, hb, hl]
    simp
    omega
attribute [local irreducible] sealH openH sealedE
theorem seals_may (key : List UInt8) (i0 i1 i2 i3 i4 i5 i6 i7 i8 i9 i10 i11 : UInt8) (mo : Nat) (l : List Stp) (h : Array Obj) (a : Option Addr) (k : Nat) [hI0 : InpC h quO a 6 l.length k (l.flatMap stpV)] (hok : ∀ j, (gt l j).ok) (hl : l.length < 4611686018427387904) (hm : mayE key [i0, i1, i2, i3, i4, i5, i6, i7, i8, i9, i10, i11] mo) :
    Sat Tryd.prog 5 [.agg #[str key, str [i0, i1, i2, i3, i4, i5, i6, i7, i8, i9, i10, i11]], .int .u64 (mo : Nat), .slice a l.length k] [quA, oldX h] (fun u L' => u = .bool true ∧ L' = [quA, oldX h]) := by
  have hkl : key.length = 32 := hm.1
  have hm1 : 1 ≤ mo := hm.2.2.1
  have hm2 : mo ≤ 4294967296 := hm.2.2.2
  all_goals
    refine Sat.enter Tryd.func5 rfl Tryd.ntmps5 rfl (fun c R => ?_)
    try simp only [List.cons_append, List.nil_append]
    repeat' (first
      | (refine T.atB 0 ?_; rename_i b47 bB hb h5 h4 pa pb h3 px h2 h1 h0; have hheavy := hb h5; obtain ⟨py, hpy⟩ : ∃ x, x = b := ⟨_, rfl⟩; subst hpy; refine T.lpa 0 [(2, _), (7, _), (9, _), (11, _), (13, _)] ((0, 0, 0) : Nat × Nat × Nat) (fun z => [(15, .int .i64 (z.1 : Nat))]) (fun z => [Pw.row 87 pa [str key, byteV i0, byteV i1, byteV i2, byteV i3, byteV i4, byteV i5, byteV i6, byteV i7, byteV i8, byteV i9, byteV i10, byteV i11, .int .u64 (z.2.1 : Nat), .int .u64 (mo : Nat)], Pw.row 87 pb [str key, byteV i0, byteV i1, byteV i2, byteV i3, byteV i4, byteV i5, byteV i6, byteV i7, byteV i8, byteV i9, byteV i10, byteV i11, .int .u64 (z.2.2 : Nat), .int .u64 (mo : Nat)], Pw.row 70 px [str key, str [i0, i1, i2, i3, i4, i5, i6, i7, i8, i9, i10, i11], .int .u64 (z.2.1 : Nat), .int .u64 (mo : Nat)], Pw.row 70 py [str key, str [i0, i1, i2, i3, i4, i5, i6, i7, i8, i9, i10, i11], .int .u64 (z.2.2 : Nat), .int .u64 (mo : Nat)]]) (fun z => z.1 ≤ l.length ∧ z.2.1 ≤ mo ∧ z.2.2 ≤ mo) (fun z => l.length - z.1) ⟨Nat.zero_le _, Nat.zero_le _, Nat.zero_le _⟩ ?_; rintro ⟨i, ca, cb⟩ g ⟨hI, hca, hcb⟩; dsimp only at hI hca hcb ⊢; have hoi := hok i; unfold Stp.ok at hoi; have hti := hheavy.2 i; simp only [List.cons_append, List.nil_append, appR])
      | (refine T.cutC (.tmp 108) (fun s : List UInt8 × Nat => [(2, .slice a l.length k), (7, .pointer (some ⟨pa, 0, none⟩)), (9, .pointer (some ⟨pb, 0, none⟩)), (11, .pointer (some ⟨px, 0, none⟩)), (13, .pointer (some ⟨py, 0, none⟩)), (15, .int .i64 (i : Nat)), (16, str s.1)]) (fun s => Pw.row 87 pa [str key, byteV i0, byteV i1, byteV i2, byteV i3, byteV i4, byteV i5, byteV i6, byteV i7, byteV i8, byteV i9, byteV i10, byteV i11, .int .u64 (s.2 : Nat), .int .u64 (mo : Nat)] :: Pw.row 87 pb [str key, byteV i0, byteV i1, byteV i2, byteV i3, byteV i4, byteV i5, byteV i6, byteV i7, byteV i8, byteV i9, byteV i10, byteV i11, .int .u64 (cb : Nat), .int .u64 (mo : Nat)] :: Pw.row 70 px [str key, str [i0, i1, i2, i3, i4, i5, i6, i7, i8, i9, i10, i11], .int .u64 (s.2 : Nat), .int .u64 (mo : Nat)] :: Pw.row 70 py [str key, str [i0, i1, i2, i3, i4, i5, i6, i7, i8, i9, i10, i11], .int .u64 (cb : Nat), .int .u64 (mo : Nat)] :: quA :: oldX h :: Pw.row 47 b47 [str key, str [i0, i1, i2, i3, i4, i5, i6, i7, i8, i9, i10, i11]] :: R) (fun s => s.1.length ≤ 110000 ∧ s.2 ≤ mo) ?_ (fun s9 g h9 => ?_); rotate_left; obtain ⟨X, ca2⟩ := s9; obtain ⟨hX, hca2⟩ := h9; dsimp only at hX hca2 ⊢; rotate_left)
      | (refine T.cutC (.tmp 152) (fun s : List UInt8 => [(2, .slice a l.length k), (7, .pointer (some ⟨pa, 0, none⟩)), (9, .pointer (some ⟨pb, 0, none⟩)), (11, .pointer (some ⟨px, 0, none⟩)), (13, .pointer (some ⟨py, 0, none⟩)), (15, .int .i64 (i : Nat)), (16, str s)]) (fun s => Pw.row 87 pa [str key, byteV i0, byteV i1, byteV i2, byteV i3, byteV i4, byteV i5, byteV i6, byteV i7, byteV i8, byteV i9, byteV i10, byteV i11, .int .u64 (ca2 : Nat), .int .u64 (mo : Nat)] :: Pw.row 87 pb [str key, byteV i0, byteV i1, byteV i2, byteV i3, byteV i4, byteV i5, byteV i6, byteV i7, byteV i8, byteV i9, byteV i10, byteV i11, .int .u64 (cb : Nat), .int .u64 (mo : Nat)] :: Pw.row 70 px [str key, str [i0, i1, i2, i3, i4, i5, i6, i7, i8, i9, i10, i11], .int .u64 (ca2 : Nat), .int .u64 (mo : Nat)] :: Pw.row 70 py [str key, str [i0, i1, i2, i3, i4, i5, i6, i7, i8, i9, i10, i11], .int .u64 (cb : Nat), .int .u64 (mo : Nat)] :: quA :: oldX h :: Pw.row 47 b47 [str key, str [i0, i1, i2, i3, i4, i5, i6, i7, i8, i9, i10, i11]] :: R) (fun s => s.length ≤ 110000) ?_ (fun Y g hY => ?_))
      | (refine TQ.atC ?_; refine TQ.cn ((_, _) : List UInt8 × Nat) rfl ⟨rfl, rfl, rfl, rfl, rfl, rfl, rfl, trivial⟩ ⟨?_, ?_⟩ (Ent.imp (by repeat first | exact Imp.refl _ | (apply Imp.pull; focus ((repeat first | exact Del.head _ _ | apply Del.tail); done)) | apply Imp.drop)))
      | (refine TQ.atC ?_; refine TQ.cn (_ : List UInt8) rfl ⟨rfl, rfl, rfl, rfl, rfl, rfl, rfl, trivial⟩ ?_ (Ent.imp (by repeat first | exact Imp.refl _ | (apply Imp.pull; focus ((repeat first | exact Del.head _ _ | apply Del.tail); done)) | apply Imp.drop)))
      | (refine TQ.atL ?_; refine TQ.rd ((i + 1, _, _) : Nat × Nat × Nat) rfl ⟨rfl, rfl, rfl, rfl, rfl, rfl, trivial⟩ ⟨?_, ?_, ?_⟩ ?_ (Ent.imp (by repeat first | exact Imp.refl _ | (apply Imp.pull; focus ((repeat first | exact Del.head _ _ | apply Del.tail); done)) | apply Imp.drop)))
      | (refine Vc.mk ⟨rfl, rfl, rfl, hok, hl⟩ ?_)
      | (refine Vc.mk ⟨hkl, hm1, hm2⟩ ?_)
      | (refine Vc.mk ⟨by omega, by omega, (by decide)⟩ ?_)
      | (refine Vc.mk ⟨rfl, by omega, by have := hti (by omega); omega⟩ ?_)
      | (refine Vc.mk ⟨hkl, by omega, hm2, by omega, by omega, by omega, by omega, by omega⟩ ?_)
      | (refine Vc.mk ⟨hkl, rfl, by omega, hm2, by omega, by omega, by omega, by omega⟩ ?_)
      | (refine Vc.mk ⟨by omega, hm2, by omega, ?_⟩ ?_)
      | (refine Vc.mk ⟨rfl, by omega, hm2, ?_⟩ ?_)
      | exact absurd rfl hc
      | exact absurd hm hc
      | refine T.pl 16 [11] (.p 0 (.p 1 (.p 2 (.p 6 (.p 7 (.d 3 (.d 4 (.d 5 (.d 8 (.d 9 (.d 10 (.n 11 (.p 12 (.p 13 (.p 14 (.p 15 (.p 16 .fin))))))))))))))))) ?_
      | refine T.pl 17 [11] (.p 0 (.p 1 (.p 2 (.p 6 (.p 7 (.d 3 (.d 4 (.d 5 (.d 8 (.d 9 (.d 10 (.n 11 (.p 12 (.p 13 (.p 14 (.p 15 (.p 16 .fin))))))))))))))))) ?_
      | refine T.pl 25 [13] (.p 0 (.p 1 (.p 2 (.p 3 (.p 6 (.p 7 (.d 4 (.d 5 (.d 8 (.d 9 (.d 10 (.p 11 (.d 12 (.n 13 .fin)))))))))))))) ?_
      | refine T.pl 29 [10, 19] (.d 0 (.d 1 (.p 2 (.p 3 (.p 4 (.p 5 (.p 6 (.p 7 (.p 8 (.p 9 (.p 11 (.p 12 (.p 13 (.b2 10 (.d 14 (.p 15 (.p 16 (.p 17 (.p 18 (.p 20 (.p 21 (.p 22 (.b2 19 (.d 23 (.p 24 (.p 25 .fin))) 23 (.n 19 (.p 24 (.p 25 .fin)))))))))))) 14 (.n 10 (.p 15 (.p 16 (.p 17 (.p 18 (.p 20 (.p 21 (.p 22 (.b2 19 (.d 23 (.p 24 (.p 25 .fin))) 23 (.n 19 (.p 24 (.p 25 .fin)))))))))))))))))))))))))) ?_
      | refine And.intro (fun hc => ?_) (fun hc => ?_)
      | refine And.intro ?_ ?_
      | intro b
      | refine stp ?_
      | refine TQ.finC ?_
      | refine TQ.finC2 ?_
      | refine TQ.finC3 ?_
      | refine ⟨fun hc => ?_, fun hc => ?_⟩
      | refine Ei.f ?_
      | refine ⟨?_, ?_⟩
      | intro b
      | omega
      | (dsimp only; omega)
      | (simp only [List.length_cons, List.length_nil, show IntKind.i64.lim = 9223372036854775808 from rfl]; omega)
      | (simp only [List.length_append, List.length_replicate, List.length_cons, List.length_nil, List.length_drop, List.length_set] <;> omega)
      | (exact Fini.of ⟨rfl, rfl⟩ (by repeat first | exact Imp.refl _ | (apply Imp.pull; focus ((repeat first | exact Del.head _ _ | apply Del.tail); done)) | apply Imp.drop))
      | (exact Fini.of ⟨congrArg Value.bool (decide_eq_true rfl), rfl⟩ (by repeat first | exact Imp.refl _ | (apply Imp.pull; focus ((repeat first | exact Del.head _ _ | apply Del.tail); done)) | apply Imp.drop))
      | exact absurd hc (by decide)
      | exact absurd (by omega) hc
      | exact sealH_ct hca
      | exact openH_ct hcb
      | exact hca
      | exact hcb
      | exact hca2
      | exact hX
      | (show X.length < _ ; omega)
      | (show Y.length < _ ; omega)
      | (exact (sealH_len hkl rfl).1 (by omega))
      | (exact List.length_pos_iff.2 ‹_›)
      | (exact fun h => absurd (List.eq_nil_of_length_eq_zero h) ‹_›)
      | (exact Nat.mod_lt _ (List.length_pos_iff.2 ‹_›))
      | (exact xor256 (UInt8.toNat_lt _) (by omega))
      | (exact Nat.lt_of_lt_of_le (xor256 (UInt8.toNat_lt _) (by omega)) (by decide))
      | (have hs9 := sealed_len (ct := cb) (s := (gt l i).t) hkl (rfl : ([i0, i1, i2, i3, i4, i5, i6, i7, i8, i9, i10, i11] : List UInt8).length = 12) (by have := hti (by omega); omega); have hs8 := (sealH_len (ct := ca) (mo := mo) (k := (gt l i).k) (t := (gt l i).t) (pad := (gt l i).pad) hkl (rfl : ([i0, i1, i2, i3, i4, i5, i6, i7, i8, i9, i10, i11] : List UInt8).length = 12)).2; have := hti (by omega); simp only [List.length_set, List.length_drop]; omega)
      | fail)
theorem seals_not (key iv : List UInt8) (mo : Nat) (hkl : key.length < 2305843009213693952) (hil : iv.length < 2305843009213693952) (hmo : mo < 18446744073709551616) (l : List Stp) (h : Array Obj) (a : Option Addr) (k : Nat) [hI0 : InpC h quO a 6 l.length k (l.flatMap stpV)] (hok : ∀ j, (gt l j).ok) (hl : l.length < 4611686018427387904) (hm : ¬ mayE key iv mo) :
    Sat Tryd.prog 5 [.agg #[str key, str iv], .int .u64 (mo : Nat), .slice a l.length k] [quA, oldX h] (fun u L' => u = .bool true ∧ L' = [quA, oldX h]) := by
  all_goals
    refine Sat.enter Tryd.func5 rfl Tryd.ntmps5 rfl (fun c R => ?_)
    try simp only [List.cons_append, List.nil_append]
    repeat' (first
      | exact absurd hc hm
      | (refine Vc.mk ⟨hmo, by omega, by omega, hm⟩ ?_)
      | (refine Vc.mk ⟨hmo, by omega, by omega⟩ ?_)
      | (refine Vc.mk ⟨rfl, rfl, rfl, hok, hl⟩ ?_)
      | exact absurd rfl hc
      | exact absurd hm hc
      | (exact Fini.of ⟨rfl, rfl⟩ (by repeat first | exact Imp.refl _ | (apply Imp.pull; focus ((repeat first | exact Del.head _ _ | apply Del.tail); done)) | apply Imp.drop))
      | (exact Fini.of ⟨congrArg Value.bool (decide_eq_true rfl), rfl⟩ (by repeat first | exact Imp.refl _ | (apply Imp.pull; focus ((repeat first | exact Del.head _ _ | apply Del.tail); done)) | apply Imp.drop))
      | exact absurd hc (by decide)
      | exact absurd (by omega) hc
      | refine T.pl 16 [11] (.p 0 (.p 1 (.p 2 (.p 6 (.p 7 (.d 3 (.d 4 (.d 5 (.d 8 (.d 9 (.d 10 (.n 11 (.p 12 (.p 13 (.p 14 (.p 15 (.p 16 .fin))))))))))))))))) ?_
      | refine T.pl 17 [11] (.p 0 (.p 1 (.p 2 (.p 6 (.p 7 (.d 3 (.d 4 (.d 5 (.d 8 (.d 9 (.d 10 (.n 11 (.p 12 (.p 13 (.p 14 (.p 15 (.p 16 .fin))))))))))))))))) ?_
      | refine T.pl 25 [13] (.p 0 (.p 1 (.p 2 (.p 3 (.p 6 (.p 7 (.d 4 (.d 5 (.d 8 (.d 9 (.d 10 (.p 11 (.d 12 (.n 13 .fin)))))))))))))) ?_
      | refine T.pl 29 [10, 19] (.d 0 (.d 1 (.p 2 (.p 3 (.p 4 (.p 5 (.p 6 (.p 7 (.p 8 (.p 9 (.p 11 (.p 12 (.p 13 (.b2 10 (.d 14 (.p 15 (.p 16 (.p 17 (.p 18 (.p 20 (.p 21 (.p 22 (.b2 19 (.d 23 (.p 24 (.p 25 .fin))) 23 (.n 19 (.p 24 (.p 25 .fin)))))))))))) 14 (.n 10 (.p 15 (.p 16 (.p 17 (.p 18 (.p 20 (.p 21 (.p 22 (.b2 19 (.d 23 (.p 24 (.p 25 .fin))) 23 (.n 19 (.p 24 (.p 25 .fin)))))))))))))))))))))))))) ?_
      | refine And.intro (fun hc => ?_) (fun hc => ?_)
      | refine And.intro ?_ ?_
      | intro b
      | refine stp ?_
      | refine TQ.finC ?_
      | refine TQ.finC2 ?_
      | refine TQ.finC3 ?_
      | refine ⟨fun hc => ?_, fun hc => ?_⟩
      | refine Ei.f ?_
      | refine ⟨?_, ?_⟩
      | intro b
      | omega
      | (dsimp only; omega)
      | (simp only [List.length_cons, List.length_nil, show IntKind.i64.lim = 9223372036854775808 from rfl]; omega)
      | (simp only [List.length_append, List.length_replicate, List.length_cons, List.length_nil, List.length_drop, List.length_set] <;> omega)
      | fail)
theorem seals_spec (key iv : List UInt8) (mo : Nat) (hkl : key.length < 2305843009213693952) (hil : iv.length < 2305843009213693952) (hmo : mo < 18446744073709551616) (l : List Stp) (h : Array Obj) (a : Option Addr) (k : Nat) [hI0 : InpC h quO a 6 l.length k (l.flatMap stpV)] (hok : ∀ j, (gt l j).ok) (hl : l.length < 4611686018427387904) : Sat Tryd.prog 5 [.agg #[str key, str iv], .int .u64 (mo : Nat), .slice a l.length k] [quA, oldX h] (fun u L' => u = .bool true ∧ L' = [quA, oldX h]) := by
  by_cases hm : mayE key iv mo
  · obtain ⟨i0, i1, i2, i3, i4, i5, i6, i7, i8, i9, i10, i11, rfl⟩ := len12 hm.2.1
    exact seals_may key i0 i1 i2 i3 i4 i5 i6 i7 i8 i9 i10 i11 mo l h a k hok hl hm
  · exact seals_not key iv mo hkl hil hmo l h a k hok hl hm

end Go.Proofs.YthbpjjlinebooaaDoor

