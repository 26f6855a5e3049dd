/- Lemmas for the proofs of this seat: no statement of the seat is claimed here. -/
import Derived.Test.YthbpjjlinebooaaDoorRa
import Derived.Test.YthbpjjlinebooaaDoorKc
import Derived.Test.YthbpjjlinebooaaDoorKl
import Derived.Test.YthbpjjlinebooaaDoorKn
import Derived.Test.YthbpjjlinebooaaDoorRb
import Derived.Test.YthbpjjlinebooaaDoorRc
import Derived.Test.YthbpjjlinebooaaDoorRr
set_option linter.all false

namespace Go.Proofs.YthbpjjlinebooaaDoor
open Go Pw
set_option maxRecDepth 20000
set_option maxHeartbeats 4000000
set_option maxHeartbeats 1000000

theorem Sat.sl_cases {P : Program} {f : FuncId} {args : List Value} {e : TypeId} {sz n : Nat} {v : Value} {xs : List Value} {B : Value → List Assn → Prop} (h0 : v = .slice none 0 0 → n = 0 → xs = [] → Sat P f args [] B)
    (h1 : ∀ b k rest, v = .slice (some ⟨b, 0, none⟩) n (n + k) → xs.length = n * sz → rest.length = k * sz → Sat P f args [Pw.row e b (xs ++ rest)] B) : Sat P f args [Pw.sl e sz v n xs] B := by
  intro c R w hw
  obtain ⟨e1, e2, e3, f1, f2, hdj, hf1, hf2, hsl, hl⟩ := hw
  rcases hsl with ⟨hv, hn, hxs⟩ | ⟨b, k, rest, hv, hxl, hrl, hrow⟩
  · exact h0 hv hn hxs c R w ⟨e1, e2, e3, hl.mono hf2⟩
  · exact h1 b k rest hv hxl hrl c R w ⟨e1, e2, e3, f1, f2, hdj, hf1, hf2, hrow, hl⟩
theorem clip_nil  :
    Sat Tryd.prog 32 [.slice none 0 0] [] (fun u L' => u = .slice none 0 0 ∧ L' = [rdL 44 2 (.slice none 0 0) 0 []]) := by
  all_goals
    refine Sat.enter Tryd.func32 rfl Tryd.ntmps32 rfl (fun c R => ?_)
    try simp only [List.cons_append, List.nil_append]
    repeat' (first
      | exact Fini.of ⟨rfl, rfl⟩ Imp.rd0
      | refine And.intro (fun hc => ?_) (fun hc => ?_)
      | refine And.intro ?_ ?_
      | intro b
      | refine stp ?_
      | refine TQ.finC ?_
      | refine TQ.finC2 ?_
      | refine TQ.finC3 ?_
      | refine ⟨fun hc => ?_, fun hc => ?_⟩
      | refine Ei.f ?_
      | refine ⟨?_, ?_⟩
      | intro b
      | omega
      | (dsimp only; omega)
      | fail)
theorem clip_row (b n k : Nat) (xs rest : List Value) (hx : xs.length = n * 2) :
    Sat Tryd.prog 32 [.slice (some ⟨b, 0, none⟩) n (n + k)] [Pw.row 44 b (xs ++ rest)] (fun u L' => u = .slice (some ⟨b, 0, none⟩) n n ∧ L' = [rdL 44 2 (.slice (some ⟨b, 0, none⟩) n n) n xs]) := by
  all_goals
    refine Sat.enter Tryd.func32 rfl Tryd.ntmps32 rfl (fun c R => ?_)
    try simp only [List.cons_append, List.nil_append]
    repeat' (first
      | exact Fini.of ⟨rfl, rfl⟩ (Imp.rdC hx (Del.head _ _))
      | refine And.intro (fun hc => ?_) (fun hc => ?_)
      | refine And.intro ?_ ?_
      | intro b
      | refine stp ?_
      | refine TQ.finC ?_
      | refine TQ.finC2 ?_
      | refine TQ.finC3 ?_
      | refine ⟨fun hc => ?_, fun hc => ?_⟩
      | refine Ei.f ?_
      | refine ⟨?_, ?_⟩
      | intro b
      | omega
      | (dsimp only; omega)
      | fail)

theorem clip_spec (a : Option Addr) (n k : Nat) (xs : List Value) : Sat Tryd.prog 32 [.slice a n k] [Pw.sl 44 2 (.slice a n k) n xs] (fun u L' => u = .slice a n n ∧ L' = [rdL 44 2 (.slice a n n) n xs]) := by
  refine Sat.sl_cases (fun h0 h1 h2 => ?_) (fun b j rest h0 h1 h2 => ?_)
  · simp only [Value.slice.injEq] at h0
    obtain ⟨rfl, rfl, rfl⟩ := h0
    subst h2
    exact clip_nil
  · simp only [Value.slice.injEq] at h0
    obtain ⟨rfl, _, rfl⟩ := h0
    exact clip_row b n j xs rest h1
instance {L R : List Assn} {a : Option Addr} {n k : Nat} {xs : List Value} [hd : SlAt L (.slice a n k) 44 2 n xs R] : FnR Tryd.prog 32 [.slice a n k] L (fun q => q (.slice a n n) (rdL 44 2 (.slice a n n) n xs :: R)) :=
  ⟨fun q h => ⟨_, R, _, clip_spec a n k xs, Pick.of1 hd.h, fun v L' hq => by rw [hq.1, hq.2]; exact h⟩⟩
theorem eg44 : Tryd.prog.eqGuardType Tryd.prog.depth 44 = false := by kernel_rfl
theorem sih44 : Tryd.prog.stoodInHeld 44 = false := by kernel_rfl
theorem pl5 : plainT Tryd.prog 5 = true := by kernel_rfl
theorem pl9 : plainT Tryd.prog 9 = true := by kernel_rfl
theorem sz5 : Tryd.prog.cellsOf 5 = 0 + 1 := by kernel_rfl
theorem sz9 : Tryd.prog.cellsOf 9 = 0 + 1 := by kernel_rfl
theorem eqRec (a b : Nat × List UInt8) (w : World) : (Op.equalIn (9998 + 1 + 1) 44 (.agg (recV a).toArray) (.agg (recV b).toArray)).run Tryd.prog w = .ok (decide (a = b)) w := by
  refine (eqSt (n := 9998 + 1) Tryd.underlying44 sih44 (.cons (by decide) rfl rfl pl5 sz5 (fun w => run_eqI _ _ _ Tryd.underlying5 w) (.cons (by decide) rfl rfl pl9 sz9 (fun w => run_eqStr _ _ _ Tryd.underlying9 w) .nil)) w).trans ?_
  congr 1
  obtain ⟨a1, a2⟩ := a
  obtain ⟨b1, b2⟩ := b
  rw [Bool.eq_iff_iff]
  simp only [List.all_cons, List.all_nil, id, Bool.and_eq_true, decide_eq_true_eq, Prod.mk.injEq, and_true]
  constructor <;> (rintro ⟨h0, h1⟩; exact ⟨by omega, h1⟩)
instance (priority := 1100) {r q : Nat × List UInt8} : Pu Tryd.prog (.bin .neq 44 (.agg (recV r).toArray) (.agg (recV q).toArray)) (fun k => k (.bool (decide (r ≠ q)))) := ⟨fun E d op ty pos af g hr k hk => by
  cases hr with | bin e1 e2 => exact ⟨_, DP.to (DP.neOf e1 e2 eg44 (eqRec r q)) (by simp), hk⟩⟩
instance (priority := 1100) {r q : Nat × List UInt8} : Pu Tryd.prog (.bin .eql 44 (.agg (recV r).toArray) (.agg (recV q).toArray)) (fun k => k (.bool (decide (r = q)))) := ⟨fun E d op ty pos af g hr k hk => by
  cases hr with | bin e1 e2 => exact ⟨_, DP.eqOf e1 e2 eg44 (eqRec r q), hk⟩⟩
theorem pre_ext {xs ys : List (Nat × List UInt8)} (hl : xs.length = ys.length) (h : ∀ j < xs.length, gt xs j = gt ys j) : xs = ys := by
  apply List.ext_getElem hl
  intro i h1 h2
  have := h i h1
  unfold gt at this
  simpa [List.getD_eq_getElem?_getD, h1, h2] using this
theorem records_spec (a1 a2 : Option Addr) (k1 k2 : Nat) (xs ys : List (Nat × List UInt8)) (h1 : xs.length < 4294967296) (h2 : ys.length < 4294967296) :
    Sat Tryd.prog 13 [.slice a1 xs.length k1, .slice a2 ys.length k2] [rdL 44 2 (.slice a1 xs.length k1) xs.length (xs.flatMap recV), rdL 44 2 (.slice a2 ys.length k2) ys.length (ys.flatMap recV)] (fun u L' => u = .bool (decide (xs = ys)) ∧ L' = [rdL 44 2 (.slice a1 xs.length k1) xs.length (xs.flatMap recV), rdL 44 2 (.slice a2 ys.length k2) ys.length (ys.flatMap recV)]) := by
  all_goals
    refine Sat.enter Tryd.func13 rfl Tryd.ntmps13 rfl (fun c R => ?_)
    try simp only [List.cons_append, List.nil_append]
    repeat' (first
      | (refine T.atB 0 ?_; refine T.lpa 0 [(0, _), (1, _)] (0 : Nat) (fun z => [(5, .int .i64 (z : Nat))]) (fun z => []) (fun z => z ≤ xs.length ∧ ∀ j < z, gt xs j = gt ys j) (fun z => xs.length - z) ⟨Nat.zero_le _, fun j hj => absurd hj (Nat.not_lt_zero _)⟩ ?_; rintro i g ⟨hI, hp⟩; simp only [List.cons_append, List.nil_append, appR])
      | (refine TQ.atL ?_; refine TQ.rd (i + 1) rfl ⟨rfl, rfl, rfl, trivial⟩ ⟨by omega, fun j hj => ?_⟩ (by omega) (Ent.imp (by repeat first | exact Imp.refl _ | (apply Imp.pull; focus ((repeat first | exact Del.head _ _ | apply Del.tail); done)) | apply Imp.drop)); (by_cases e : j = i); (subst e; exact Decidable.not_not.1 hc); (exact hp j (by omega)))
      | (have e : i = xs.length := (by omega); subst e; exact Fini.mk ⟨by rw [decide_eq_true (pre_ext (by omega) hp)]; rfl, rfl⟩)
      | exact Fini.mk ⟨by rw [decide_eq_false (fun e => hc (congrArg List.length e))]; rfl, rfl⟩
      | exact Fini.mk ⟨by rw [decide_eq_false (fun e => hc (by rw [e]))]; rfl, rfl⟩
      | (refine Vc.mk ⟨rfl, by omega⟩ ?_)
      | refine T.pl 6 [] (.p 0 (.p 1 (.p 4 (.p 5 (.d 2 (.d 3 (.d 6 (.d 7 (.p 8 .fin))))))))) ?_
      | refine And.intro (fun hc => ?_) (fun hc => ?_)
      | refine And.intro ?_ ?_
      | intro b
      | refine stp ?_
      | refine TQ.finC ?_
      | refine TQ.finC2 ?_
      | refine TQ.finC3 ?_
      | refine ⟨fun hc => ?_, fun hc => ?_⟩
      | refine Ei.f ?_
      | refine ⟨?_, ?_⟩
      | intro b
      | omega
      | (dsimp only; omega)
      | fail)

end Go.Proofs.YthbpjjlinebooaaDoor


namespace Go.Proofs.YthbpjjlinebooaaDoor
open Go Pw
set_option maxRecDepth 20000
set_option maxHeartbeats 4000000
set_option maxHeartbeats 1000000

/-- The nonce of a count: its bytes, the highest first, over the last eight. -/
def nonS (iv : List UInt8) (ct : Nat) : Nat → List UInt8
  | 0 => iv
  | i + 1 => (nonS iv ct i).set (4 + i) (UInt8.ofNat ((gt (nonS iv ct i) (4 + i)).toNat ^^^ (ct / 2 ^ (56 - 8 * i) % 256)))
theorem nonS_len (iv : List UInt8) (ct : Nat) : ∀ i, (nonS iv ct i).length = iv.length
  | 0 => rfl
  | i + 1 => by rw [nonS, List.length_set]; exact nonS_len iv ct i
def nonE (iv : List UInt8) (ct : Nat) : List UInt8 := nonS iv ct 8
instance (priority := 900) {n : Nat} : Inv byteV (.int .u8 ((n : Nat) : Int)) (UInt8.ofNat n) (n < 256) := ⟨fun h => by simp [byteV, Nat.mod_eq_of_lt h]⟩
theorem xor256 {a b : Nat} (h : a < 256) (h2 : b < 256) : a ^^^ b < 256 := Nat.xor_lt_two_pow (n := 8) h h2
attribute [local irreducible] nonS
theorem rnonce_spec (p ct mo : Nat) (key iv : List UInt8) (hiv : iv.length = 12) (hct : ct < 18446744073709551616) :
    Sat Tryd.prog 35 [.pointer (some ⟨p, 0, none⟩)] [Pw.row 70 p [str key, str iv, .int .u64 (ct : Nat), .int .u64 (mo : Nat)]] (fun u L' => u = str (nonE iv ct) ∧ L' = [Pw.row 70 p [str key, str iv, .int .u64 (ct : Nat), .int .u64 (mo : Nat)]]) := by
  all_goals
    refine Sat.enter Tryd.func35 rfl Tryd.ntmps35 rfl (fun c R => ?_)
    try simp only [List.cons_append, List.nil_append]
    repeat' (first
      | (refine T.atB 0 ?_; rename_i bb; simp only [hiv]; refine T.lpa 0 [(0, _), (3, _)] ((0, iv) : Nat × List UInt8) (fun z => [(4, .int .i64 (z.1 : Nat))]) (fun z => [sl 5 1 (.slice (some ⟨bb, 0, none⟩) 12 b) 12 (z.2.map byteV)]) (fun z => z.1 ≤ 8 ∧ z.2 = nonS iv ct z.1) (fun z => 8 - z.1) ⟨Nat.zero_le _, by rw [nonS]⟩ ?_; rintro ⟨i, ys⟩ g ⟨hI, hy⟩; dsimp only at hI hy ⊢; have hyl : ys.length = 12 := (by rw [hy, nonS_len, hiv]); have hb4 := (gt ys (4 + i)).toNat_lt; simp only [List.cons_append, List.nil_append, appR])
      | (refine TQ.atL ?_; refine TQ.rd ((i + 1, _) : Nat × List UInt8) rfl ⟨rfl, rfl, rfl, trivial⟩ ⟨by dsimp only; omega, ?_⟩ (by dsimp only; omega) (Ent.imp (by repeat first | exact Imp.refl _ | (apply Imp.pull; focus ((repeat first | exact Del.head _ _ | apply Del.tail); done)) | apply Imp.drop)); dsimp only; rw [nonS, hy])
      | (have e8 : i = 8 := (by omega); subst e8; exact Fini.mk ⟨by rw [hy]; rfl, rfl⟩)
      | (exact xor256 (UInt8.toNat_lt _) (Nat.mod_lt _ (by decide)))
      | (exact Nat.lt_of_lt_of_le (xor256 (UInt8.toNat_lt _) (Nat.mod_lt _ (by decide))) (by decide))
      | (exact Nat.lt_of_le_of_lt (Nat.div_le_self _ _) hct)
      | exact UInt8.toNat_lt _
      | exact Nat.mod_lt _ (by decide)
      | refine T.pl 5 [20] (.p 0 (.p 1 (.p 2 (.p 3 (.p 4 (.p 5 (.p 8 (.p 9 (.p 12 (.p 13 (.p 14 (.p 15 (.d 6 (.d 7 (.d 10 (.d 11 (.p 16 (.p 17 (.p 18 (.d 19 (.n 20 .fin))))))))))))))))))))) ?_
      | refine And.intro (fun hc => ?_) (fun hc => ?_)
      | refine And.intro ?_ ?_
      | intro b
      | refine stp ?_
      | refine TQ.finC ?_
      | refine TQ.finC2 ?_
      | refine TQ.finC3 ?_
      | refine ⟨fun hc => ?_, fun hc => ?_⟩
      | refine Ei.f ?_
      | refine ⟨?_, ?_⟩
      | intro b
      | omega
      | (dsimp only; omega)
      | fail)
instance {L R : List Assn} {p ct mo : Nat} {x y : Int} {key iv : List UInt8} [hx : Nn x ct] [hy : Nn y mo] [hd : RowDel L p 70 [str key, str iv, .int .u64 x, .int .u64 y] R] : FnR Tryd.prog 35 [.pointer (some ⟨p, 0, none⟩)] L (fun q => Vc (iv.length = 12 ∧ ct < 18446744073709551616) (q (str (nonE iv ct)) (Pw.row 70 p [str key, str iv, .int .u64 (ct : Nat), .int .u64 (mo : Nat)] :: R))) :=
  ⟨fun q h => ⟨_, R, _, rnonce_spec p ct mo key iv h.l.1 h.l.2, Pick.of1 (by have := hd.h; rw [hx.h, hy.h] at this; exact this), fun v L' hq => by rw [hq.1, hq.2]; exact h.r⟩⟩

end Go.Proofs.YthbpjjlinebooaaDoor


namespace Go.Proofs.YthbpjjlinebooaaDoor
open Go Pw
set_option maxRecDepth 20000
set_option maxHeartbeats 4000000
set_option maxHeartbeats 1000000

instance {L : List Assn} {key nonce ad s : List UInt8} : FnR Tryd.prog 34 [str key, str nonce, str ad, str s] L (fun kk => Vc (ad.length < 4294967296 ∧ s.length < 4294967296) (kk (asResult [str (SealE key nonce ad s).1, .int .i64 ((SealE key nonce ad s).2 : Nat)]) L)) :=
  ⟨fun kk h => ⟨[], L, _, refSeal_spec key nonce ad s h.l.1 h.l.2, .nil _, fun v L' hq => by rw [hq.1, hq.2]; exact h.r⟩⟩
theorem refOpen_spec (key nonce ad s : List UInt8) (ha : ad.length < 4294967296) (hs : s.length < 4294967296) : Sat Tryd.prog 45 [str key, str nonce, str ad, str s] [] (fun u L' => u = asResult [str (OpenE key nonce ad s).1, .int .i64 ((OpenE key nonce ad s).2 : Nat)] ∧ L' = []) := by
  rcases Nat.lt_or_ge s.length 16 with h | h
  · exact refOpen_short key nonce ad s ha hs h
  · exact refOpen_long key nonce ad s ha hs h
instance {L : List Assn} {key nonce ad s : List UInt8} : FnR Tryd.prog 45 [str key, str nonce, str ad, str s] L (fun kk => Vc (ad.length < 4294967296 ∧ s.length < 4294967296) (kk (asResult [str (OpenE key nonce ad s).1, .int .i64 ((OpenE key nonce ad s).2 : Nat)]) L)) :=
  ⟨fun kk h => ⟨[], L, _, refOpen_spec key nonce ad s h.l.1 h.l.2, .nil _, fun v L' hq => by rw [hq.1, hq.2]; exact h.r⟩⟩
instance {L R : List Assn} {key nonce ad s : List UInt8} [hd : DelC quA L R] : FnR Tryd.prog 38 [str key, str nonce, str ad, str s] L (fun q => Vc (ad.length < 4294967296 ∧ s.length < 4294967296) (q (asResult [str (SealE key nonce ad s).1, .int .i64 ((SealE key nonce ad s).2 : Nat)]) (quA :: R))) :=
  ⟨fun q h => ⟨_, R, _, Seal_spec key nonce ad s h.l.1 h.l.2, Pick.of1 hd.h, fun v L' hq => by rw [hq.1, hq.2]; exact h.r⟩⟩
theorem Open_spec (key nonce ad s : List UInt8) (ha : ad.length < 4294967296) (hs : s.length < 4294967296) : Sat Tryd.prog 42 [str key, str nonce, str ad, str s] [quA] (fun u L' => u = asResult [str (OpenE key nonce ad s).1, .int .i64 (OpenE key nonce ad s).2] ∧ L' = [quA]) := by
  by_cases h : 16 ≤ s.length
  · exact Open_long key nonce ad s ha hs h
  · exact Open_short key nonce ad s ha hs (by omega)
instance {L R : List Assn} {key nonce ad s : List UInt8} [hd : DelC quA L R] : FnR Tryd.prog 42 [str key, str nonce, str ad, str s] L (fun q => Vc (ad.length < 4294967296 ∧ s.length < 4294967296) (q (asResult [str (OpenE key nonce ad s).1, .int .i64 ((OpenE key nonce ad s).2 : Nat)]) (quA :: R))) :=
  ⟨fun q h => ⟨_, R, _, Open_spec key nonce ad s h.l.1 h.l.2, Pick.of1 hd.h, fun v L' hq => by rw [hq.1, hq.2]; exact h.r⟩⟩
def sealedE (key iv : List UInt8) (ct : Nat) (s : List UInt8) : List UInt8 := (SealE key (nonE iv ct) (begE 23 (s.length + 16)) s).1
attribute [local irreducible] SealE OpenE nonE
theorem Sealed_spec (p ct mo : Nat) (key iv s : List UInt8) (hiv : iv.length = 12) (hct : ct < 18446744073709551616) (hs : s.length < 4294967280) :
    Sat Tryd.prog 19 [.pointer (some ⟨p, 0, none⟩), str s] [Pw.row 70 p [str key, str iv, .int .u64 (ct : Nat), .int .u64 (mo : Nat)]] (fun u L' => u = str (sealedE key iv ct s) ∧ L' = [Pw.row 70 p [str key, str iv, .int .u64 (ct : Nat), .int .u64 (mo : Nat)]]) := by
  all_goals
    refine Sat.enter Tryd.func19 rfl Tryd.ntmps19 rfl (fun c R => ?_)
    try simp only [List.cons_append, List.nil_append]
    repeat' (first
      | (refine Vc.mk ⟨hiv, hct⟩ ?_)
      | (refine Vc.mk ⟨by decide, by decide, by decide, by omega, by omega, trivial⟩ ?_)
      | (refine Vc.mk ⟨by simp only [List.length_cons, List.length_nil]; omega, by omega⟩ ?_)
      | exact Fini.mk ⟨rfl, rfl⟩
      | refine T.pk 2 [6, 12, 15] (.p 0 (.p 1 (.p 5 (.p 7 (.p 8 (.p 9 (.p 10 (.p 11 (.p 14 (.p 2 (.p 3 (.b3 4 (.b2 6 (.n 12 (.g 13 (.n 15 (.p 16 (.p 17 (.p 18 (.p 19 (.p 20 .fin)))))))) 12 (.g 13 (.n 6 (.n 15 (.p 16 (.p 17 (.p 18 (.p 19 (.p 20 .fin))))))))) 6 (.b2 4 (.n 12 (.g 13 (.n 15 (.p 16 (.p 17 (.p 18 (.p 19 (.p 20 .fin)))))))) 12 (.g 13 (.d 4 (.n 15 (.p 16 (.p 17 (.p 18 (.p 19 (.p 20 .fin))))))))) 12 (.g 13 (.b2 4 (.n 6 (.n 15 (.p 16 (.p 17 (.p 18 (.p 19 (.p 20 .fin))))))) 6 (.d 4 (.n 15 (.p 16 (.p 17 (.p 18 (.p 19 (.p 20 .fin))))))))))))))))))))) ?_
      | refine And.intro (fun hc => ?_) (fun hc => ?_)
      | refine And.intro ?_ ?_
      | intro b
      | refine stk ?_
      | refine stp ?_
      | refine TQ.finC ?_
      | refine TQ.finC2 ?_
      | refine TQ.finC3 ?_
      | refine ⟨fun hc => ?_, fun hc => ?_⟩
      | refine Ei.f ?_
      | refine ⟨?_, ?_⟩
      | intro b
      | omega
      | (dsimp only; omega)
      | fail)

end Go.Proofs.YthbpjjlinebooaaDoor


namespace Go.Proofs.YthbpjjlinebooaaDoor
open Go Pw
set_option maxRecDepth 20000
set_option maxHeartbeats 4000000
set_option maxHeartbeats 1000000
theorem none_spec (p n k f : Nat) (a : Option Addr) :
    Sat Tryd.prog 30 [.pointer (some ⟨p, 0, none⟩)] [Pw.row 80 p [.slice a n k, .int .i64 f, .bool true]] (fun u L' => u = .bool false ∧ L' = [Pw.row 80 p [.slice a n k, .int .i64 f, .bool true]]) := by
  all_goals
    refine Sat.enter Tryd.func30 rfl Tryd.ntmps30 rfl (fun c R => ?_)
    try simp only [List.cons_append, List.nil_append]
    repeat' (first
      | exact Fini.mk ⟨rfl, rfl⟩
      | (exact absurd hc (by decide))
      | exact absurd rfl hc
      | refine And.intro (fun hc => ?_) (fun hc => ?_)
      | refine And.intro ?_ ?_
      | intro b
      | refine stp ?_
      | refine TQ.finC ?_
      | refine TQ.finC2 ?_
      | refine TQ.finC3 ?_
      | refine ⟨fun hc => ?_, fun hc => ?_⟩
      | refine Ei.f ?_
      | refine ⟨?_, ?_⟩
      | intro b
      | omega
      | (dsimp only; omega)
      | fail)
instance {L R : List Assn} {p n k f : Nat} {a : Option Addr} {x : Int} [hx : Nn x f] [hd : RowDel L p 80 [.slice a n k, .int .i64 x, .bool true] R] : FnR Tryd.prog 30 [.pointer (some ⟨p, 0, none⟩)] L (fun q => q (.bool false) (Pw.row 80 p [.slice a n k, .int .i64 f, .bool true] :: R)) :=
  ⟨fun q h => ⟨_, R, _, none_spec p n k f a, Pick.of1 (by have := hd.h; rw [hx.h] at this; exact this), fun v L' hq => by rw [hq.1, hq.2]; exact h⟩⟩
theorem left_spec (p n k f : Nat) (a : Option Addr) (hf : f < 9223372036854775808) :
    Sat Tryd.prog 14 [.pointer (some ⟨p, 0, none⟩)] [Pw.row 80 p [.slice a n k, .int .i64 f, .bool true]] (fun u L' => u = .int .i64 ((if f ≠ 0 then 0 else n : Nat)) ∧ L' = [Pw.row 80 p [.slice a n k, .int .i64 f, .bool true]]) := by
  all_goals
    refine Sat.enter Tryd.func14 rfl Tryd.ntmps14 rfl (fun c R => ?_)
    try simp only [List.cons_append, List.nil_append]
    repeat' (first
      | exact Fini.mk ⟨by rw [if_pos (by omega)]; rfl, rfl⟩
      | exact Fini.mk ⟨by rw [if_neg (by omega)]; rfl, rfl⟩
      | (exact absurd hc (by decide))
      | exact absurd rfl hc
      | refine And.intro (fun hc => ?_) (fun hc => ?_)
      | refine And.intro ?_ ?_
      | intro b
      | refine stp ?_
      | refine TQ.finC ?_
      | refine TQ.finC2 ?_
      | refine TQ.finC3 ?_
      | refine ⟨fun hc => ?_, fun hc => ?_⟩
      | refine Ei.f ?_
      | refine ⟨?_, ?_⟩
      | intro b
      | omega
      | (dsimp only; omega)
      | fail)
theorem hnone_spec (p ct mo : Nat) (key v0 v1 v2 v3 v4 v5 v6 v7 v8 v9 v10 v11 : Value) (hm : 0 < mo) (hm2 : mo < 18446744073709551616) :
    Sat Tryd.prog 36 [.pointer (some ⟨p, 0, none⟩)] [Pw.row 87 p [key, v0, v1, v2, v3, v4, v5, v6, v7, v8, v9, v10, v11, .int .u64 ct, .int .u64 mo]] (fun u L' => u = .bool false ∧ L' = [Pw.row 87 p [key, v0, v1, v2, v3, v4, v5, v6, v7, v8, v9, v10, v11, .int .u64 ct, .int .u64 mo]]) := by
  all_goals
    refine Sat.enter Tryd.func36 rfl Tryd.ntmps36 rfl (fun c R => ?_)
    try simp only [List.cons_append, List.nil_append]
    repeat' (first
      | exact Fini.mk ⟨rfl, rfl⟩
      | (exact absurd hc (by decide))
      | exact absurd rfl hc
      | exact Fini.mk ⟨by rw [decide_eq_false (by omega)]; rfl, rfl⟩
      | refine And.intro (fun hc => ?_) (fun hc => ?_)
      | refine And.intro ?_ ?_
      | intro b
      | refine stp ?_
      | refine TQ.finC ?_
      | refine TQ.finC2 ?_
      | refine TQ.finC3 ?_
      | refine ⟨fun hc => ?_, fun hc => ?_⟩
      | refine Ei.f ?_
      | refine ⟨?_, ?_⟩
      | intro b
      | omega
      | (dsimp only; omega)
      | fail)
instance {L R : List Assn} {p ct mo : Nat} {x y : Int} {key v0 v1 v2 v3 v4 v5 v6 v7 v8 v9 v10 v11 : Value} [hx : Nn x ct] [hy : Nn y mo] [hd : RowDel L p 87 [key, v0, v1, v2, v3, v4, v5, v6, v7, v8, v9, v10, v11, .int .u64 x, .int .u64 y] R] : FnR Tryd.prog 36 [.pointer (some ⟨p, 0, none⟩)] L (fun q => Vc (0 < mo ∧ mo < 18446744073709551616) (q (.bool false) (Pw.row 87 p [key, v0, v1, v2, v3, v4, v5, v6, v7, v8, v9, v10, v11, .int .u64 ct, .int .u64 mo] :: R))) :=
  ⟨fun q h => ⟨_, R, _, hnone_spec p ct mo key v0 v1 v2 v3 v4 v5 v6 v7 v8 v9 v10 v11 h.l.1 h.l.2, Pick.of1 (by have := hd.h; rw [hx.h, hy.h] at this; exact this), fun v L' hq => by rw [hq.1, hq.2]; exact h.r⟩⟩
theorem count_spec (p ct mo : Nat) (key v0 v1 v2 v3 v4 v5 v6 v7 v8 v9 v10 v11 : Value) (hm : 0 < mo) (hm2 : mo < 18446744073709551616) :
    Sat Tryd.prog 24 [.pointer (some ⟨p, 0, none⟩)] [Pw.row 87 p [key, v0, v1, v2, v3, v4, v5, v6, v7, v8, v9, v10, v11, .int .u64 ct, .int .u64 mo]] (fun u L' => u = .int .u64 (ct : Nat) ∧ L' = [Pw.row 87 p [key, v0, v1, v2, v3, v4, v5, v6, v7, v8, v9, v10, v11, .int .u64 ct, .int .u64 mo]]) := by
  all_goals
    refine Sat.enter Tryd.func24 rfl Tryd.ntmps24 rfl (fun c R => ?_)
    try simp only [List.cons_append, List.nil_append]
    repeat' (first
      | exact Fini.mk ⟨rfl, rfl⟩
      | (exact absurd hc (by decide))
      | exact absurd rfl hc
      | refine And.intro (fun hc => ?_) (fun hc => ?_)
      | refine And.intro ?_ ?_
      | intro b
      | refine stp ?_
      | refine TQ.finC ?_
      | refine TQ.finC2 ?_
      | refine TQ.finC3 ?_
      | refine ⟨fun hc => ?_, fun hc => ?_⟩
      | refine Ei.f ?_
      | refine ⟨?_, ?_⟩
      | intro b
      | omega
      | (dsimp only; omega)
      | fail)

end Go.Proofs.YthbpjjlinebooaaDoor


namespace Go.Proofs.YthbpjjlinebooaaDoor
open Go Pw
set_option maxRecDepth 20000
set_option maxHeartbeats 4000000
set_option maxHeartbeats 1000000
theorem take_spec (p n k : Nat) (a : Option Addr) (bs : List UInt8) (ch : UInt8) (hl : bs.length = n) (hn32 : n < 4294967296) :
    Sat Tryd.prog 31 [.pointer (some ⟨p, 0, none⟩), .int .u8 ch.toNat] [Pw.row 80 p [.slice a n k, .int .i64 0, .bool true], sl 5 1 (.slice a n k) n (bs.map byteV)] (fun u L' => ∃ a k, u = asResult (resV (takeE bs ch).2.2) ∧ L' = [Pw.row 80 p [.slice a (takeE bs ch).1.length k, .int .i64 ((takeE bs ch).2.1 : Nat), .bool true], sl 5 1 (.slice a (takeE bs ch).1.length k) (takeE bs ch).1.length ((takeE bs ch).1.map byteV)]) := by
  rcases Nat.lt_or_ge bs.length 5 with h | h
  · rcases (by omega : bs.length = 0 ∨ bs.length = 1 ∨ bs.length = 2 ∨ bs.length = 3 ∨ bs.length = 4) with h | h | h | h | h
    · exact take_0 p n k a bs ch hl hn32 h
    · exact take_1 p n k a bs ch hl hn32 h
    · exact take_2 p n k a bs ch hl hn32 h
    · exact take_3 p n k a bs ch hl hn32 h
    · exact take_4 p n k a bs ch hl hn32 h
  · exact take_5 p n k a bs ch hl hn32 h
instance {L R1 R2 : List Assn} {p n k f : Nat} {a : Option Addr} {bs : List UInt8} {x : Int} {ch : UInt8} [hx : Nn x f] [h1 : RowDel L p 80 [.slice a n k, .int .i64 x, .bool true] R1] [h2 : SlAt R1 (.slice a n k) 5 1 n (bs.map byteV) R2] : FnR Tryd.prog 31 [.pointer (some ⟨p, 0, none⟩), .int .u8 ch.toNat] L (fun q => Vc (bs.length = n ∧ n < 4294967296 ∧ f = 0) (∀ a' k', ((takeE bs ch).2.2 = none → q (asResult (resV none)) (Pw.row 80 p [.slice a' (takeE bs ch).1.length k', .int .i64 ((takeE bs ch).2.1 : Nat), .bool true] :: sl 5 1 (.slice a' (takeE bs ch).1.length k') (takeE bs ch).1.length ((takeE bs ch).1.map byteV) :: R2)) ∧ (∀ r, (takeE bs ch).2.2 = some r → q (asResult (resV (some r))) (Pw.row 80 p [.slice a' (takeE bs ch).1.length k', .int .i64 ((takeE bs ch).2.1 : Nat), .bool true] :: sl 5 1 (.slice a' (takeE bs ch).1.length k') (takeE bs ch).1.length ((takeE bs ch).1.map byteV) :: R2)))) :=
  ⟨fun q h => by
    obtain ⟨⟨hl, hn, rfl⟩, hq⟩ := h
    refine ⟨_, R2, _, take_spec p n k a bs ch hl hn, .cons (by have := h1.h; rw [hx.h] at this; exact this) (.cons h2.h (.nil _)), fun v L' hv => ?_⟩
    obtain ⟨a', k', hv1, hv2⟩ := hv
    rw [hv1, hv2]
    obtain ⟨q1, q2⟩ := hq a' k'
    cases ho : (takeE bs ch).2.2 with
    | none => exact q1 ho
    | some r => exact q2 r ho⟩

/-- A reader's state: what it holds, its fault, the records so far; and one byte more. -/
def fedS (z : List UInt8 × Nat × List (Nat × List UInt8)) (c : UInt8) : List UInt8 × Nat × List (Nat × List UInt8) :=
  if z.2.1 = 0 then ((takeE z.1 c).1, (takeE z.1 c).2.1, z.2.2 ++ (takeE z.1 c).2.2.toList) else z
def fedE (z : List UInt8 × Nat × List (Nat × List UInt8)) (s : List UInt8) : List UInt8 × Nat × List (Nat × List UInt8) := s.foldl fedS z
theorem fed_stuck {z : List UInt8 × Nat × List (Nat × List UInt8)} (h : z.2.1 ≠ 0) : ∀ s, fedE z s = z
  | [] => rfl
  | c :: s => by rw [fedE, List.foldl_cons, fedS, if_neg h]; exact fed_stuck h s
theorem fed0 (z : List UInt8 × Nat × List (Nat × List UInt8)) (s : List UInt8) : z = fedE z (s.take 0) := rfl
theorem fed_app (z : List UInt8 × Nat × List (Nat × List UInt8)) (s u : List UInt8) : fedE z (s ++ u) = fedE (fedE z s) u := List.foldl_append ..
theorem fed_next {z : List UInt8 × Nat × List (Nat × List UInt8)} {s : List UInt8} {i : Nat} (h : i < s.length) : fedE z (s.take (i + 1)) = fedS (fedE z (s.take i)) (gt s i) := by
  have e : s.take (i + 1) = s.take i ++ [gt s i] := by
    rw [List.take_succ, gt, List.getD_eq_getElem?_getD]; simp [h]
  rw [e, fed_app]; rfl
theorem fed_end {z w : List UInt8 × Nat × List (Nat × List UInt8)} {s : List UInt8} {i : Nat} (hw : w = fedE z (s.take i)) (h : w.2.1 ≠ 0) : w = fedE z s := by
  conv => rhs; rw [← List.take_append_drop i s, fed_app, ← hw]
  exact (fed_stuck h _).symm
theorem take_len {b : List UInt8} {c : UInt8} (h : (takeE b c).2.1 = 0) : (takeE b c).1.length < 65541 := by
  have hb := lng_lt (b ++ [c])
  by_cases hc : fltE (b ++ [c]) ≠ 0 ∨ (b ++ [c]).length < 5 ∨ (b ++ [c]).length < 5 + lngE (b ++ [c])
  · rw [take_n hc] at h ⊢; dsimp only at h ⊢; omega
  · rw [take_s hc]; exact Nat.succ_pos _
theorem flat_len (l : List (Nat × List UInt8)) : (l.flatMap recV).length = l.length * 2 := by
  induction l with
  | nil => rfl
  | cons a l ih =>
    have e : (recV a).length = 2 := rfl
    rw [List.flatMap_cons, List.length_append, ih, e, show (a :: l).length = l.length + 1 from rfl]; omega
attribute [local irreducible] fltE lngE takeE fedE
theorem newReader_spec  :
    Sat Tryd.prog 10 [] [] (fun u L' => ∃ p, u = .pointer (some ⟨p, 0, none⟩) ∧ L' = [Pw.row 80 p [.slice none 0 0, .int .i64 (0 : Nat), .bool true], sl 5 1 (.slice none 0 0) 0 []]) := by
  all_goals
    refine Sat.enter Tryd.func10 rfl Tryd.ntmps10 rfl (fun c R => ?_)
    try simp only [List.cons_append, List.nil_append]
    repeat' (first
      | (exact Fini.of ⟨_, rfl, rfl⟩ (Imp.pull (Del.head _ _) (Imp.slN (Imp.refl _))))
      | (exact Fini.of ⟨_, rfl, rfl⟩ (by repeat first | exact Imp.refl _ | apply Imp.slN | (apply Imp.pull; focus ((repeat first | exact Del.head _ _ | apply Del.tail); done)) | apply Imp.drop))
      | refine And.intro (fun hc => ?_) (fun hc => ?_)
      | refine And.intro ?_ ?_
      | intro b
      | refine stp ?_
      | refine TQ.finC ?_
      | refine TQ.finC2 ?_
      | refine TQ.finC3 ?_
      | refine ⟨fun hc => ?_, fun hc => ?_⟩
      | refine Ei.f ?_
      | refine ⟨?_, ?_⟩
      | intro b
      | omega
      | (dsimp only; omega)
      | fail)

end Go.Proofs.YthbpjjlinebooaaDoor


namespace Go.Proofs.YthbpjjlinebooaaDoor
open Go Pw
set_option maxRecDepth 20000
set_option maxHeartbeats 4000000
set_option maxHeartbeats 2000000
attribute [local irreducible] fltE lngE takeE fedE
theorem feed_spec (p n k f : Nat) (a : Option Addr) (bs s : List UInt8) (hl : bs.length = n) (hf : f < 9223372036854775808) (hb : f = 0 → bs.length < 65541) (hs : s.length < 1099511627776) :
    Sat Tryd.prog 11 [.pointer (some ⟨p, 0, none⟩), str s] [Pw.row 80 p [.slice a n k, .int .i64 f, .bool true], sl 5 1 (.slice a n k) n (bs.map byteV)] (fun u L' => ∃ a k a2, u = asResult [.slice a2 (fedE (bs, f, []) s).2.2.length (fedE (bs, f, []) s).2.2.length, .int .i64 ((fedE (bs, f, []) s).2.1 : Nat)] ∧ L' = [Pw.row 80 p [.slice a (fedE (bs, f, []) s).1.length k, .int .i64 ((fedE (bs, f, []) s).2.1 : Nat), .bool true], sl 5 1 (.slice a (fedE (bs, f, []) s).1.length k) (fedE (bs, f, []) s).1.length ((fedE (bs, f, []) s).1.map byteV), rdL 44 2 (.slice a2 (fedE (bs, f, []) s).2.2.length (fedE (bs, f, []) s).2.2.length) (fedE (bs, f, []) s).2.2.length ((fedE (bs, f, []) s).2.2.flatMap recV)]) := by
  subst hl
  all_goals
    refine Sat.enter Tryd.func11 rfl Tryd.ntmps11 rfl (fun c R => ?_)
    try simp only [List.cons_append, List.nil_append]
    repeat' (first
      | (refine T.atB 0 ?_; refine T.ent (Ent.imp (show Imp _ (sl 44 2 (.slice none ([] : List (Nat × List UInt8)).length 0) ([] : List (Nat × List UInt8)).length (([] : List (Nat × List UInt8)).flatMap recV) :: _) from Imp.slN (Imp.refl _))) ?_; refine T.lpa 0 [(0, _), (1, _)] ((0, (bs, f, []), (a, k), (none, 0)) : Nat × (List UInt8 × Nat × List (Nat × List UInt8)) × (Option Addr × Nat) × (Option Addr × Nat)) (fun z => [(6, .slice z.2.2.2.1 z.2.1.2.2.length z.2.2.2.2), (7, .int .i64 (z.1 : Nat))]) (fun z => [Pw.row 80 p [.slice z.2.2.1.1 z.2.1.1.length z.2.2.1.2, .int .i64 (z.2.1.2.1 : Nat), .bool true], sl 5 1 (.slice z.2.2.1.1 z.2.1.1.length z.2.2.1.2) z.2.1.1.length (z.2.1.1.map byteV), sl 44 2 (.slice z.2.2.2.1 z.2.1.2.2.length z.2.2.2.2) z.2.1.2.2.length (z.2.1.2.2.flatMap recV)]) (fun z => z.1 ≤ s.length ∧ z.2.1 = fedE (bs, f, []) (s.take z.1) ∧ (z.2.1.2.1 = 0 → z.2.1.1.length < 65541) ∧ z.2.1.2.2.length ≤ z.1) (fun z => s.length - z.1) ⟨Nat.zero_le _, fed0 _ _, hb, Nat.zero_le _⟩ ?_; rintro ⟨i, ⟨bf, fl, l⟩, ⟨a1, k1⟩, ⟨a2, k2⟩⟩ g ⟨hI, hst, hbl, hll⟩; dsimp only at hI hst hbl hll ⊢; simp only [List.cons_append, List.nil_append, appR])
      | (intro a3 k3; refine And.intro (fun ho => ?_) (fun rr ho => ?_))
      | (refine TQ.atL ?_; have hnx := fed_next (z := (bs, f, [])) (s := s) (i := i) (by omega); rw [← hst] at hnx; refine TQ.rd ((i + 1, ((takeE bf (gt s i)).1, (takeE bf (gt s i)).2.1, l), (a3, k3), (a2, k2)) : Nat × (List UInt8 × Nat × List (Nat × List UInt8)) × (Option Addr × Nat) × (Option Addr × Nat)) rfl ⟨rfl, rfl, rfl, rfl, trivial⟩ ⟨by dsimp only; omega, by dsimp only; rw [hnx, fedS, if_pos (by dsimp only; omega), ho]; simp, fun h => take_len h, by dsimp only; omega⟩ (by dsimp only; omega) (Ent.imp (by repeat first | exact Imp.refl _ | (apply Imp.pull; focus ((repeat first | exact Del.head _ _ | apply Del.tail); done)) | apply Imp.drop)))
      | (refine TQ.atL ?_; have e1 : l.length + 1 = (l ++ [rr]).length := (by simp); have e2 : l.flatMap recV ++ recV rr = (l ++ [rr]).flatMap recV := (by simp); rename_i a4; rw [e1, e2]; have hnx := fed_next (z := (bs, f, [])) (s := s) (i := i) (by omega); rw [← hst] at hnx; refine TQ.rd ((i + 1, ((takeE bf (gt s i)).1, (takeE bf (gt s i)).2.1, l ++ [rr]), (a3, k3), (a4, b)) : Nat × (List UInt8 × Nat × List (Nat × List UInt8)) × (Option Addr × Nat) × (Option Addr × Nat)) rfl ⟨rfl, rfl, rfl, rfl, trivial⟩ ⟨by dsimp only; omega, by dsimp only; rw [hnx, fedS, if_pos (by dsimp only; omega), ho]; simp, fun h => take_len h, by dsimp only; rw [List.length_append, List.length_singleton]; omega⟩ (by dsimp only; omega) (Ent.imp (by repeat first | exact Imp.refl _ | (apply Imp.pull; focus ((repeat first | exact Del.head _ _ | apply Del.tail); done)) | apply Imp.drop)))
      | (have e := fed_end hst (by dsimp only; omega); rw [← e]; exact Fini.of ⟨_, _, _, rfl, rfl⟩ (by repeat first | exact Imp.refl _ | (apply Imp.pull; focus ((repeat first | exact Del.head _ _ | apply Del.tail); done)) | apply Imp.drop))
      | (have ei : i = s.length := (by omega); rw [ei, List.take_length] at hst; rw [← hst]; exact Fini.of ⟨_, _, _, rfl, rfl⟩ (by repeat first | exact Imp.refl _ | (apply Imp.pull; focus ((repeat first | exact Del.head _ _ | apply Del.tail); done)) | apply Imp.drop))
      | exact flat_len _
      | exact (rfl : (44 : Nat) = 44)
      | exact trivial
      | refine T.pl 10 [1] (.p 0 (.p 2 (.p 3 (.p 4 (.b2 1 (.p 6 (.d 5 (.p 7 .fin))) 5 (.n 1 (.p 6 (.p 7 .fin)))))))) ?_
      | refine And.intro (fun hc => ?_) (fun hc => ?_)
      | refine And.intro ?_ ?_
      | intro b
      | refine stp ?_
      | refine TQ.finC ?_
      | refine TQ.finC2 ?_
      | refine TQ.finC3 ?_
      | refine ⟨fun hc => ?_, fun hc => ?_⟩
      | refine Ei.f ?_
      | refine ⟨?_, ?_⟩
      | intro b
      | omega
      | (dsimp only; omega)
      | fail)

end Go.Proofs.YthbpjjlinebooaaDoor

