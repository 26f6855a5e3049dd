/- Lemmas for the proofs of this seat: no statement of the seat is claimed here. -/
import Derived.Test.YtfgpnipnaaeafaaKs
set_option linter.all false

namespace Go.Proofs.Ytfgpnipnaaeafaa
open Go Pw
set_option maxRecDepth 20000
set_option maxHeartbeats 4000000
set_option synthInstance.maxHeartbeats 400000
set_option synthInstance.maxSize 4000
set_option maxHeartbeats 8000000

/-- A pool, but for the memory. -/
def poolV (q p P sz : Nat) (wh : List UInt8) : Assn :=
  exA (fun _ : Option Addr × Nat => True) fun x => [row 112 q [.pointer (some ⟨p, 0, none⟩), .int .u32 P, .int .i64 sz, .slice x.1 wh.length x.2], Pw.sl 5 (0 + 1) (.slice x.1 wh.length x.2) wh.length (wh.map byteV)]
class PoAt (L : List Assn) (q : Nat) (p P sz : outParam Nat) (wh : outParam (List UInt8)) (R : outParam (List Assn)) : Prop where h : Del (poolV q p P sz wh) L R
instance (priority := 1100) {L : List Assn} {q p P sz : Nat} {wh : List UInt8} : PoAt (poolV q p P sz wh :: L) q p P sz wh L := ⟨.head _ _⟩
instance {A : Assn} {L R : List Assn} {q p P sz : Nat} {wh : List UInt8} [h : PoAt L q p P sz wh R] : PoAt (A :: L) q p P sz wh (A :: R) := ⟨.tail h.h⟩
/-- What Index answers. -/
inductive IdxP (wh : List UInt8) : Int → Prop
  | none : (∀ j, j < wh.length → gt wh j ≠ 0) → IdxP wh (-1)
  | some (i : Nat) : i < wh.length → gt wh i = 0 → (∀ j, j < i → gt wh j ≠ 0) → IdxP wh (i : Int)
/-- What Get answers. -/
inductive GetP (P sz : Nat) (wh : List UInt8) : Nat → Nat → List UInt8 → Prop
  | full : (∀ j, j < wh.length → gt wh j ≠ 0) → GetP P sz wh 0 6 wh
  | got (i : Nat) : i < wh.length → gt wh i = 0 → (∀ j, j < i → gt wh j ≠ 0) → GetP P sz wh (P + i * sz) 0 (wh.set i 1)
/-- What Put answers. -/
structure PutP (P sz : Nat) (wh : List UInt8) (a : Nat) (e : Nat) (wh' : List UInt8) : Prop where
  len : wh'.length = wh.length
  le : e ≤ 20
  ok : ∀ i, i < wh.length → a = P + i * sz → gt wh i = 1 → e = 0 ∧ wh' = wh.set i 0
theorem z1 {a : UInt8} (h : 0 = a.toNat) : a = 0 := UInt8.toNat_inj.1 h.symm
theorem z2 {a : UInt8} (h : ¬ 0 = a.toNat) : a ≠ 0 := fun e => h (by rw [e]; rfl)
theorem o1 {a : UInt8} (h : a.toNat = 1) : a = 1 := UInt8.toNat_inj.1 h
theorem o2 {a : UInt8} (h : ¬ a.toNat = 1) : a ≠ 1 := fun e => h (by rw [e]; rfl)
inductive FindP (P sz n a : Nat) : Nat → Nat → Prop
  | ok (i : Nat) : i < n → a = P + i * sz → FindP P sz n a i 0
  | bad : (∀ i, i < n → a ≠ P + i * sz) → FindP P sz n a 0 2
theorem find_ok {P sz n a : Nat} (h1 : P ≤ a) (h2 : (a - P) % sz = 0) (h3 : (a - P) / sz < n) : FindP P sz n a ((a - P) / sz) 0 := .ok _ h3 (by
  have := Nat.div_add_mod (a - P) sz
  rw [h2, Nat.mul_comm] at this
  omega)
theorem find_bad {P sz n a : Nat} (hz : 0 < sz) (h : a < P ∨ (a - P) % sz ≠ 0 ∨ n ≤ (a - P) / sz) : FindP P sz n a 0 2 := .bad fun i hi e => by
  subst e
  rw [Nat.add_sub_cancel_left, Nat.mul_mod_left, Nat.mul_div_cancel _ hz] at h
  omega
theorem put_bad {P sz a : Nat} {wh : List UInt8} (h : ∀ i, i < wh.length → a ≠ P + i * sz) : PutP P sz wh a 2 wh := ⟨rfl, by decide, fun i h1 h2 => absurd h2 (h i h1)⟩
theorem put_st {P sz i a : Nat} {wh : List UInt8} (hz : 0 < sz) (h1 : a = P + i * sz) (h : gt wh i ≠ 1) : PutP P sz wh a 3 wh := ⟨rfl, by decide, fun j h2 h3 h4 => by
  have : i = j := Nat.eq_of_mul_eq_mul_right hz (by omega)
  rw [this] at h; exact absurd h4 h⟩
theorem put_ok {P sz i a : Nat} {wh : List UInt8} (hz : 0 < sz) (h1 : a = P + i * sz) : PutP P sz wh a 0 (wh.set i 0) := ⟨List.length_set, by decide, fun j h2 h3 h4 => by
  have : i = j := Nat.eq_of_mul_eq_mul_right hz (by omega)
  rw [this]; exact ⟨rfl, rfl⟩⟩
instance : Inv byteV (.int .u8 0) 0 True := ⟨fun _ => rfl⟩
instance : Inv byteV (.int .u8 1) 1 True := ⟨fun _ => rfl⟩
theorem byte0 {a : UInt8} : ((a.toNat : Nat) : Int) = 0 ↔ a = 0 := ⟨fun h => UInt8.toNat_inj.1 (by simpa using h), fun h => by rw [h]; rfl⟩
theorem index_spec (k : Nat) (a : Option Addr) (wh : List UInt8) (hn : wh.length ≤ 256) :
    Sat Try.prog 45 [.slice a wh.length k, .int .u8 0] [Pw.sl 5 (0 + 1) (.slice a wh.length k) wh.length (wh.map byteV)] (fun u L' => ∃ i, IdxP wh i ∧ u = .int .i64 i ∧ L' = [Pw.sl 5 (0 + 1) (.slice a wh.length k) wh.length (wh.map byteV)]) := by
  have hgo : True := trivial
  all_goals
    refine Sat.enter Try.func45 rfl Try.ntmps45 rfl (fun c R => ?_)
    try simp only [List.cons_append, List.nil_append]
    repeat' (first
      | (refine T.atB 0 ?_; refine T.lpa 0 [(0, _), (1, _), (4, _), (7, _)] (0 : Nat) (fun i => [(8, .int .i64 (i : Nat))]) (fun i => []) (fun i => i ≤ wh.length ∧ ∀ j, j < i → gt wh j ≠ 0) (fun i => wh.length - i) ⟨Nat.zero_le _, fun j h => absurd h (Nat.not_lt_zero _)⟩ ?_; rintro i g ⟨hi, hj⟩; simp only [List.cons_append, List.nil_append, appR])
      | (refine TQ.atL ?_; refine TQ.rd (i + 1 : Nat) rfl (by repeat first | exact trivial | refine ⟨rfl, ?_⟩) ⟨by omega, fun j h => (by by_cases h8 : j = i; rw [h8]; exact z2 (by assumption); exact hj j (by omega))⟩ (by omega) (Ent.imp (by repeat first | exact Imp.refl _ | (apply Imp.pull; focus ((repeat first | exact Del.head _ _ | apply Del.tail); done)) | apply Imp.drop)))
      | (refine finAt ?_; have hi2 : i = wh.length := (by omega); exact Fini.of ⟨_, .none (fun j h => hj j (by omega)), rfl, rfl⟩ (by repeat first | exact Imp.refl _ | (apply Imp.pull; focus ((repeat first | exact Del.head _ _ | apply Del.tail); done)) | apply Imp.drop))
      | (refine finAt ?_; exact Fini.of ⟨_, .some i (by omega) (z1 (by assumption)) hj, rfl, rfl⟩ (by repeat first | exact Imp.refl _ | (apply Imp.pull; focus ((repeat first | exact Del.head _ _ | apply Del.tail); done)) | apply Imp.drop))
      | refine And.intro (fun hc => ?_) (fun hc => ?_)
      | refine And.intro ?_ ?_
      | intro b
      | refine stp ?_
      | refine TQ.finC ?_
      | refine TQ.finC2 ?_
      | refine TQ.finC3 ?_
      | refine ⟨fun hc => ?_, fun hc => ?_⟩
      | refine Ei.f ?_
      | refine ⟨?_, ?_⟩
      | intro b
      | exact absurd rfl hc
      | exact absurd hc (by decide)
      | omega
      | (dsimp only; omega)
      | fail)
instance {L R : List Assn} {k m : Nat} {a : Option Addr} {wh : List UInt8} [h1 : SlAt L (.slice a m k) 5 (0 + 1) m (wh.map byteV) R] : FnR Try.prog 45 [.slice a m k, .int .u8 0] L (fun kk => Vc (m = wh.length ∧ wh.length ≤ 256) (∀ i, IdxP wh i → kk (.int .i64 i) (Pw.sl 5 (0 + 1) (.slice a m k) m (wh.map byteV) :: R))) :=
  ⟨fun kk h => by
    obtain ⟨⟨rfl, h4⟩, h9⟩ := h
    exact ⟨_, R, _, index_spec k a wh h4, .cons h1.h (.nil _), fun v L' hv => by obtain ⟨i, f1, f2, f3⟩ := hv; rw [f2, f3]; exact h9 i f1⟩⟩
theorem pfind_spec (q p P sz k : Nat) (a : Option Addr) (wh : List UInt8) (at_ : Nat) (hn : wh.length ≤ 256) (hz : 0 < sz) (hz2 : sz ≤ 1048576) (hP : P ≤ 1048576) (ha : at_ < 4294967296) :
    Sat Try.prog 73 [.pointer (some ⟨q, 0, none⟩), .int .u32 at_] [row 112 q [.pointer (some ⟨p, 0, none⟩), .int .u32 P, .int .i64 sz, .slice a wh.length k], Pw.sl 5 (0 + 1) (.slice a wh.length k) wh.length (wh.map byteV)] (fun u L' => ∃ i e, FindP P sz wh.length at_ i e ∧ u = .tuple #[.int .i64 (i : Nat), .int .i64 (e : Nat)] ∧ L' = [row 112 q [.pointer (some ⟨p, 0, none⟩), .int .u32 P, .int .i64 sz, .slice a wh.length k], Pw.sl 5 (0 + 1) (.slice a wh.length k) wh.length (wh.map byteV)]) := by
  have hdv : (at_ - P) / sz ≤ at_ - P := Nat.div_le_self _ _
  all_goals
    refine Sat.enter Try.func73 rfl Try.ntmps73 rfl (fun c R => ?_)
    try simp only [List.cons_append, List.nil_append]
    repeat' (first
      | (refine finAt ?_; exact Fini.of ⟨_, _, find_bad hz (by omega), rfl, rfl⟩ (by repeat first | exact Imp.refl _ | (apply Imp.pull; focus ((repeat first | exact Del.head _ _ | apply Del.tail); done)) | apply Imp.drop))
      | (refine finAt ?_; exact Fini.of ⟨_, _, find_ok (by omega) (by omega) (by omega), rfl, rfl⟩ (by repeat first | exact Imp.refl _ | (apply Imp.pull; focus ((repeat first | exact Del.head _ _ | apply Del.tail); done)) | apply Imp.drop))
      | refine T.pl 3 [] (.p 0 (.p 1 (.p 2 (.d 3 (.d 4 (.p 5 (.p 6 (.p 7 (.p 8 (.p 9 (.p 14 (.p 15 (.d 10 (.d 11 (.p 12 (.p 13 (.d 16 (.d 17 (.p 18 (.p 19 (.p 20 (.p 21 (.p 22 (.p 23 (.p 24 (.p 29 (.p 30 (.p 34 (.p 35 (.d 25 (.d 26 (.p 27 (.p 28 (.d 31 (.d 32 (.p 33 (.d 36 (.d 37 (.p 38 (.p 39 (.p 40 (.p 41 .fin)))))))))))))))))))))))))))))))))))))))))) ?_
      | refine T.pl 5 [] (.p 0 (.p 1 (.p 2 (.p 7 (.p 8 (.d 3 (.d 4 (.p 5 (.p 6 (.d 9 (.d 10 (.p 11 (.p 12 (.p 13 .fin)))))))))))))) ?_
      | refine And.intro (fun hc => ?_) (fun hc => ?_)
      | refine And.intro ?_ ?_
      | intro b
      | refine stp ?_
      | refine TQ.finC ?_
      | refine TQ.finC2 ?_
      | refine TQ.finC3 ?_
      | refine ⟨fun hc => ?_, fun hc => ?_⟩
      | refine Ei.f ?_
      | refine ⟨?_, ?_⟩
      | intro b
      | exact absurd rfl hc
      | exact absurd hc (by decide)
      | omega
      | (dsimp only; omega)
      | fail)
instance {L R R1 : List Assn} {q p P sz k m : Nat} {x : Int} {at_ : Nat} {a : Option Addr} {wh : List UInt8} [h1 : RowDel L q 112 [.pointer (some ⟨p, 0, none⟩), .int .u32 (P : Nat), .int .i64 (sz : Nat), .slice a m k] R1] [h2 : SlAt R1 (.slice a m k) 5 (0 + 1) m (wh.map byteV) R] [hx : Nn x at_] : FnR Try.prog 73 [.pointer (some ⟨q, 0, none⟩), .int .u32 x] L (fun kk => Vc (m = wh.length ∧ wh.length ≤ 256 ∧ 0 < sz ∧ sz ≤ 1048576 ∧ P ≤ 1048576 ∧ at_ < 4294967296) (∀ i e, FindP P sz wh.length at_ i e → kk (.tuple #[.int .i64 (i : Nat), .int .i64 (e : Nat)]) (row 112 q [.pointer (some ⟨p, 0, none⟩), .int .u32 (P : Nat), .int .i64 (sz : Nat), .slice a m k] :: Pw.sl 5 (0 + 1) (.slice a m k) m (wh.map byteV) :: R))) :=
  ⟨fun kk h => by
    obtain ⟨⟨rfl, h4, h5, h6, h7, h8⟩, h9⟩ := h
    rw [hx.h]
    exact ⟨_, R, _, pfind_spec q p P sz k a wh at_ h4 h5 h6 h7 h8, .cons h1.h (.cons h2.h (.nil _)), fun v L' hv => by obtain ⟨i, e, f1, f2, f3⟩ := hv; rw [f2, f3]; exact h9 i e f1⟩⟩
theorem put1_spec (x y : Int) :
    Sat Try.prog 55 [.agg #[.int .u32 x, .int .u32 y]] [] (fun u L' => u = .int .i64 0 ∧ L' = []) := by
  all_goals
    refine Sat.enter Try.func55 rfl Try.ntmps55 rfl (fun c R => ?_)
    try simp only [List.cons_append, List.nil_append]
    repeat' (first
      | (exact Fini.of ⟨rfl, rfl⟩ (by repeat first | exact Imp.refl _ | (apply Imp.pull; focus ((repeat first | exact Del.head _ _ | apply Del.tail); done)) | apply Imp.drop))
      | refine And.intro (fun hc => ?_) (fun hc => ?_)
      | refine And.intro ?_ ?_
      | intro b
      | refine stp ?_
      | refine TQ.finC ?_
      | refine TQ.finC2 ?_
      | refine TQ.finC3 ?_
      | refine ⟨fun hc => ?_, fun hc => ?_⟩
      | refine Ei.f ?_
      | refine ⟨?_, ?_⟩
      | intro b
      | exact absurd rfl hc
      | exact absurd hc (by decide)
      | omega
      | (dsimp only; omega)
      | fail)
instance {L : List Assn} {x y : Int} : FnR Try.prog 55 [.agg #[.int .u32 x, .int .u32 y]] L (fun kk => kk (.int .i64 0) L) := ⟨fun kk h => ⟨[], L, _, put1_spec x y, .nil _, fun v L' hv => by rw [hv.1, hv.2]; exact h⟩⟩
theorem turn_spec (q p P sz k : Nat) (a : Option Addr) (wh : List UInt8) (at_ : Nat) (hn : wh.length ≤ 256) (hz : 0 < sz) (hz2 : sz ≤ 1048576) (hP : P ≤ 1048576) (ha : at_ < 4294967296) :
    Sat Try.prog 54 [.pointer (some ⟨q, 0, none⟩), .int .u32 at_, .int .u8 1, .int .u8 0, .func (.func 55) #[] #[]] [row 112 q [.pointer (some ⟨p, 0, none⟩), .int .u32 P, .int .i64 sz, .slice a wh.length k], Pw.sl 5 (0 + 1) (.slice a wh.length k) wh.length (wh.map byteV)] (fun u L' => ∃ e wh', PutP P sz wh at_ e wh' ∧ u = .int .i64 (e : Nat) ∧ L' = [row 112 q [.pointer (some ⟨p, 0, none⟩), .int .u32 P, .int .i64 sz, .slice a wh'.length k], Pw.sl 5 (0 + 1) (.slice a wh'.length k) wh'.length (wh'.map byteV)]) := by
  have hgo : True := trivial
  have hg4 : True := trivial
  all_goals
    refine Sat.enter Try.func54 rfl Try.ntmps54 rfl (fun c R => ?_)
    try simp only [List.cons_append, List.nil_append]
    repeat' (first
      | (refine T.atR 2 ?_; clear hgo; rename_i fi fe; have hfp := b)
      | (refine finAt ?_; cases hfp with | ok => (exfalso; omega) | bad hb => exact Fini.of ⟨_, _, put_bad hb, rfl, rfl⟩ (by repeat first | exact Imp.refl _ | (apply Imp.pull; focus ((repeat first | exact Del.head _ _ | apply Del.tail); done)) | apply Imp.drop))
      | (refine T.atR 4 ?_; clear hg4; cases hfp with | bad => (exfalso; omega) | ok _ hfi hfa => ?_)
      | (refine finAt ?_; exact Fini.of ⟨_, _, put_st hz hfa (o2 (by assumption)), rfl, rfl⟩ (by repeat first | exact Imp.refl _ | (apply Imp.pull; focus ((repeat first | exact Del.head _ _ | apply Del.tail); done)) | apply Imp.drop))
      | (refine finAt ?_; refine Fini.of ⟨_, _, put_ok (i := fi) hz hfa, rfl, rfl⟩ ?_; rw [List.length_set, List.map_set]; exact (by repeat first | exact Imp.refl _ | (apply Imp.pull; focus ((repeat first | exact Del.head _ _ | apply Del.tail); done)) | apply Imp.drop))
      | refine And.intro (fun hc => ?_) (fun hc => ?_)
      | refine And.intro ?_ ?_
      | intro b
      | refine stp ?_
      | refine TQ.finC ?_
      | refine TQ.finC2 ?_
      | refine TQ.finC3 ?_
      | refine ⟨fun hc => ?_, fun hc => ?_⟩
      | refine Ei.f ?_
      | refine ⟨?_, ?_⟩
      | intro b
      | exact absurd rfl hc
      | exact absurd hc (by decide)
      | omega
      | (dsimp only; omega)
      | fail)
theorem pput_spec (q p P sz k : Nat) (a : Option Addr) (wh : List UInt8) (at_ : Nat) (hn : wh.length ≤ 256) (hz : 0 < sz) (hz2 : sz ≤ 1048576) (hP : P ≤ 1048576) (ha : at_ < 4294967296) : Sat Try.prog 33 [.pointer (some ⟨q, 0, none⟩), .int .u32 at_] [row 112 q [.pointer (some ⟨p, 0, none⟩), .int .u32 P, .int .i64 sz, .slice a wh.length k], Pw.sl 5 (0 + 1) (.slice a wh.length k) wh.length (wh.map byteV)] (fun u L' => ∃ e wh', PutP P sz wh at_ e wh' ∧ u = .int .i64 (e : Nat) ∧ L' = [row 112 q [.pointer (some ⟨p, 0, none⟩), .int .u32 P, .int .i64 sz, .slice a wh'.length k], Pw.sl 5 (0 + 1) (.slice a wh'.length k) wh'.length (wh'.map byteV)]) := by
  have ht : ∀ L, FnR Try.prog 54 [.pointer (some ⟨q, 0, none⟩), .int .u32 (at_ : Nat), .int .u8 1, .int .u8 0, .func (.func 55) #[] #[]] (row 112 q [.pointer (some ⟨p, 0, none⟩), .int .u32 P, .int .i64 sz, .slice a wh.length k] :: Pw.sl 5 (0 + 1) (.slice a wh.length k) wh.length (wh.map byteV) :: L) (fun kk => ∀ e wh', PutP P sz wh at_ e wh' → kk (.int .i64 (e : Nat)) (row 112 q [.pointer (some ⟨p, 0, none⟩), .int .u32 P, .int .i64 sz, .slice a wh'.length k] :: Pw.sl 5 (0 + 1) (.slice a wh'.length k) wh'.length (wh'.map byteV) :: L)) := fun L =>
    ⟨fun kk h => ⟨_, L, _, turn_spec q p P sz k a wh at_ hn hz hz2 hP ha, .cons (.head _ _) (.cons (.head _ _) (.nil _)), fun v L' hv => by obtain ⟨e, wh', f1, f2, f3⟩ := hv; rw [f2, f3]; exact h e wh' f1⟩⟩
  all_goals
    refine Sat.enter Try.func33 rfl Try.ntmps33 rfl (fun c R => ?_)
    try simp only [List.cons_append, List.nil_append]
    repeat' (first
      | (refine finAt ?_; rename_i e w; exact Fini.of ⟨_, _, b, rfl, rfl⟩ (by repeat first | exact Imp.refl _ | (apply Imp.pull; focus ((repeat first | exact Del.head _ _ | apply Del.tail); done)) | apply Imp.drop))
      | refine And.intro (fun hc => ?_) (fun hc => ?_)
      | refine And.intro ?_ ?_
      | intro b
      | refine stp ?_
      | refine TQ.finC ?_
      | refine TQ.finC2 ?_
      | refine TQ.finC3 ?_
      | refine ⟨fun hc => ?_, fun hc => ?_⟩
      | refine Ei.f ?_
      | refine ⟨?_, ?_⟩
      | intro b
      | exact absurd rfl hc
      | exact absurd hc (by decide)
      | omega
      | (dsimp only; omega)
      | fail)
theorem get_spec (q p P sz k : Nat) (a : Option Addr) (wh : List UInt8) (hn : wh.length ≤ 256) (hz : 0 < sz) (hz2 : sz ≤ 1048576) (hPn : P + wh.length * sz ≤ 1048576) (hP : P ≤ 1048576) :
    Sat Try.prog 29 [.pointer (some ⟨q, 0, none⟩)] [row 112 q [.pointer (some ⟨p, 0, none⟩), .int .u32 P, .int .i64 sz, .slice a wh.length k], Pw.sl 5 (0 + 1) (.slice a wh.length k) wh.length (wh.map byteV)] (fun u L' => ∃ at_ e wh', GetP P sz wh at_ e wh' ∧ u = .tuple #[.int .u32 (at_ : Nat), .int .i64 (e : Nat)] ∧ L' = [row 112 q [.pointer (some ⟨p, 0, none⟩), .int .u32 P, .int .i64 sz, .slice a wh'.length k], Pw.sl 5 (0 + 1) (.slice a wh'.length k) wh'.length (wh'.map byteV)]) := by
  have hgo : True := trivial
  have hml : ∀ j, j < wh.length → P + j * sz ≤ 1048576 := fun j hj => (Nat.le_trans (Nat.add_le_add_left (Nat.mul_le_mul_right sz (Nat.le_of_lt hj)) P) (by omega))
  all_goals
    refine Sat.enter Try.func29 rfl Try.ntmps29 rfl (fun c R => ?_)
    try simp only [List.cons_append, List.nil_append]
    repeat' (first
      | (refine T.atR 4 ?_; clear hgo; rename_i ix; have hix := b; rcases hix with hn0 | ⟨j, hj1, hj2, hj3⟩; rotate_left; have hm9 := hml j hj1; have hm8 : (P + j * sz % 4294967296) % 4294967296 = P + j * sz := (by omega))
      | (refine finAt ?_; have hn1 := hn0; exact Fini.of ⟨_, _, _, .full hn1, rfl, rfl⟩ (by repeat first | exact Imp.refl _ | (apply Imp.pull; focus ((repeat first | exact Del.head _ _ | apply Del.tail); done)) | apply Imp.drop))
      | (refine finAt ?_; (try rw [hm8]); refine Fini.of ⟨_, _, _, .got j hj1 hj2 hj3, rfl, rfl⟩ ?_; simp only [List.length_set]; exact (by repeat first | exact Imp.refl _ | (apply Imp.pull; focus ((repeat first | exact Del.head _ _ | apply Del.tail); done)) | apply Imp.drop))
      | refine T.pl 7 [] (.p 0 (.p 1 (.p 4 (.p 5 (.p 6 (.d 2 (.d 3 (.d 7 (.d 8 (.p 9 (.p 10 (.p 11 (.p 12 (.p 13 .fin)))))))))))))) ?_
      | refine And.intro (fun hc => ?_) (fun hc => ?_)
      | refine And.intro ?_ ?_
      | intro b
      | refine stp ?_
      | refine TQ.finC ?_
      | refine TQ.finC2 ?_
      | refine TQ.finC3 ?_
      | refine ⟨fun hc => ?_, fun hc => ?_⟩
      | refine Ei.f ?_
      | refine ⟨?_, ?_⟩
      | intro b
      | exact absurd rfl hc
      | exact absurd hc (by decide)
      | omega
      | (dsimp only; omega)
      | fail)
theorem pput_at {q p P sz : Nat} {wh : List UInt8} {at_ : Nat} (h : wh.length ≤ 256 ∧ 0 < sz ∧ sz ≤ 1048576 ∧ P ≤ 1048576 ∧ at_ < 4294967296) : Sat Try.prog 33 [.pointer (some ⟨q, 0, none⟩), .int .u32 at_] [poolV q p P sz wh] (fun u L' => ∃ e wh', PutP P sz wh at_ e wh' ∧ u = .int .i64 (e : Nat) ∧ L' = [poolV q p P sz wh']) := by
  refine Sat.openA1 ?_
  rintro ⟨a, k⟩ -
  refine Sat.imp ?_ ((pput_spec q p P sz k a wh at_ h.1 h.2.1 h.2.2.1 h.2.2.2.1 h.2.2.2.2).post ?_)
  rotate_left
  · rintro u L' ⟨e, wh', h1, rfl, rfl⟩
    have hl : wh'.length = wh.length := by cases h1 <;> first | assumption | simp
    exact ⟨_, Imp.shutA1 (a, k) trivial (by dsimp only; rw [hl]; exact Imp.refl _), e, wh', h1, rfl, rfl⟩
  · exact Imp.refl _
instance {L R : List Assn} {q p P sz : Nat} {wh : List UInt8} {at_ : Nat} {x : Int} [hx : Nn x at_] [h1 : PoAt L q p P sz wh R] : FnR Try.prog 33 [.pointer (some ⟨q, 0, none⟩), .int .u32 x] L (fun kk => Vc (wh.length ≤ 256 ∧ 0 < sz ∧ sz ≤ 1048576 ∧ P ≤ 1048576 ∧ at_ < 4294967296) (∀ e wh', PutP P sz wh at_ e wh' → kk (.int .i64 (e : Nat)) (poolV q p P sz wh' :: R))) :=
  ⟨fun kk h => ⟨_, R, _, by rw [hx.h]; exact pput_at h.l, .cons h1.h (.nil _), fun v L' hv => by obtain ⟨e, wh', f1, f2, f3⟩ := hv; rw [f2, f3]; exact h.r e wh' f1⟩⟩
theorem get_at {q p P sz : Nat} {wh : List UInt8} (h : wh.length ≤ 256 ∧ 0 < sz ∧ sz ≤ 1048576 ∧ P ≤ 1048576 ∧ P + wh.length * sz ≤ 1048576) : Sat Try.prog 29 [.pointer (some ⟨q, 0, none⟩)] [poolV q p P sz wh] (fun u L' => ∃ b e wh', GetP P sz wh b e wh' ∧ u = .tuple #[.int .u32 (b : Nat), .int .i64 (e : Nat)] ∧ L' = [poolV q p P sz wh']) := by
  refine Sat.openA1 ?_
  rintro ⟨a, k⟩ -
  refine Sat.imp ?_ ((get_spec q p P sz k a wh h.1 h.2.1 h.2.2.1 h.2.2.2.2 h.2.2.2.1).post ?_)
  rotate_left
  · rintro u L' ⟨b, e, wh', h1, rfl, rfl⟩
    have hl : wh'.length = wh.length := by cases h1 <;> first | assumption | simp
    exact ⟨_, Imp.shutA1 (a, k) trivial (by dsimp only; rw [hl]; exact Imp.refl _), b, e, wh', h1, rfl, rfl⟩
  · exact Imp.refl _
instance {L R : List Assn} {q p P sz : Nat} {wh : List UInt8} [h1 : PoAt L q p P sz wh R] : FnR Try.prog 29 [.pointer (some ⟨q, 0, none⟩)] L (fun kk => Vc (wh.length ≤ 256 ∧ 0 < sz ∧ sz ≤ 1048576 ∧ P ≤ 1048576 ∧ P + wh.length * sz ≤ 1048576) (∀ b e wh', GetP P sz wh b e wh' → kk (.tuple #[.int .u32 (b : Nat), .int .i64 (e : Nat)]) (poolV q p P sz wh' :: R))) :=
  ⟨fun kk h => ⟨_, R, _, by exact get_at h.l, .cons h1.h (.nil _), fun v L' hv => by obtain ⟨b, e, wh', f1, f2, f3⟩ := hv; rw [f2, f3]; exact h.r b e wh' f1⟩⟩
theorem imp_pool {q p P sz n k : Nat} {a : Option Addr} {R R' : List Assn} (i : Imp R R') : Imp (row 112 q [.pointer (some ⟨p, 0, none⟩), .int .u32 P, .int .i64 sz, .slice a n k] :: Pw.sl 5 (0 + 1) (.slice a n k) n ((List.replicate n (0 : UInt8)).map byteV) :: R) (poolV q p P sz (List.replicate n 0) :: R') := by
  refine Imp.shutA (R := R') (a, k) trivial ?_
  dsimp only
  rw [List.length_replicate]
  exact Imp.pull (.head _ _) (Imp.pull (.head _ _) i)
instance {L R : List Assn} {p b bl : Nat} {v : Value} {x y : Int} {a m : Nat} [h1 : RowDel L p 70 [.slice (some ⟨b, 0, none⟩) bl bl, v] R] [hx : Nn x a] [hy : Nn y m] : FnR Try.prog 41 [.pointer (some ⟨p, 0, none⟩), .int .u32 x, .int .i64 y] L (fun kk => Vc (1 ≤ m ∧ a + m ≤ bl ∧ bl ≤ 1048576) (kk (.tuple #[.slice (some ⟨b, a, none⟩) m m, .int .i64 0]) (row 70 p [.slice (some ⟨b, 0, none⟩) bl bl, v] :: R))) :=
  ⟨fun kk h => ⟨_, R, _, by rw [hx.h, hy.h]; exact part_pos p bl a m b v h.l.2.2 (by have := h.l; omega) h.l.2.1 h.l.1, .cons h1.h (.nil _), fun v L' hv => by rw [hv.1, hv.2]; exact h.r⟩⟩
theorem newpool_spec (p b bl P sz n : Nat) (v : Value) (h1 : 1 ≤ sz) (h2 : 1 ≤ n) (h3 : n ≤ 256) (h4 : sz ≤ bl) (h5 : P + sz * n ≤ bl) (h6 : 1 ≤ sz * n) (hbl : bl ≤ 1048576) :
    Sat Try.prog 27 [.pointer (some ⟨p, 0, none⟩), .int .u32 P, .int .i64 sz, .int .i64 n] [row 70 p [.slice (some ⟨b, 0, none⟩) bl bl, v]] (fun u L' => ∃ q, u = .tuple #[.pointer (some ⟨q, 0, none⟩), .int .i64 0] ∧ L' = [poolV q p P sz (List.replicate n 0), row 70 p [.slice (some ⟨b, 0, none⟩) bl bl, v]]) := by
  all_goals
    refine Sat.enter Try.func27 rfl Try.ntmps27 rfl (fun c R => ?_)
    try simp only [List.cons_append, List.nil_append]
    repeat' (first
      | (refine finAt ?_; exact Fini.of ⟨_, rfl, rfl⟩ (imp_pool (Imp.refl _)))
      | refine And.intro (fun hc => ?_) (fun hc => ?_)
      | refine And.intro ?_ ?_
      | intro b
      | refine stp ?_
      | refine TQ.finC ?_
      | refine TQ.finC2 ?_
      | refine TQ.finC3 ?_
      | refine ⟨fun hc => ?_, fun hc => ?_⟩
      | refine Ei.f ?_
      | refine ⟨?_, ?_⟩
      | intro b
      | exact absurd rfl hc
      | exact absurd hc (by decide)
      | omega
      | (dsimp only; omega)
      | fail)
theorem newpool_at {p P sz n : Nat} {bs : List UInt8} {lt : List Bool} (h1 : 1 ≤ sz) (h2 : 1 ≤ n) (h3 : n ≤ 256) (h5 : P + sz * n ≤ bs.length) : Sat Try.prog 27 [.pointer (some ⟨p, 0, none⟩), .int .u32 P, .int .i64 sz, .int .i64 n] [memA p bs lt] (fun u L' => ∃ q, u = .tuple #[.pointer (some ⟨q, 0, none⟩), .int .i64 0] ∧ L' = [poolV q p P sz (List.replicate n 0), memA p bs lt]) := by
  have hm : 1 * n ≤ sz * n := Nat.mul_le_mul_right n h1
  have hm2 : sz * 1 ≤ sz * n := Nat.mul_le_mul_left sz h2
  refine Sat.openA1 ?_
  rintro ⟨b, v, ss⟩ ⟨g1, g2, g3⟩
  dsimp only at g1 g2 g3
  refine Sat.imp ?_ (((newpool_spec p b bs.length P sz n v h1 h2 h3 (by omega) h5 (by omega) g1).frame (F := [row 5 b (bs.map byteV), sl 110 2 v ss.length (spans ss)])).post ?_)
  rotate_left
  · rintro u L' ⟨_, ⟨q, rfl, rfl⟩, rfl⟩
    refine ⟨_, ?_, q, rfl, rfl⟩
    simp only [List.cons_append, List.nil_append]
    refine Imp.pull (.head _ _) ?_
    exact Imp.shutA1 (b, v, ss) ⟨g1, g2, g3⟩ (Imp.refl _)
  · exact Imp.refl _
instance {L R : List Assn} {p P sz n : Nat} {x y z : Int} {bs : List UInt8} {lt : List Bool} [hm : MemAt L p bs lt R] [hx : Nn x P] [hy : Nn y sz] [hz : Nn z n] : FnR Try.prog 27 [.pointer (some ⟨p, 0, none⟩), .int .u32 x, .int .i64 y, .int .i64 z] L (fun kk => Vc (1 ≤ sz ∧ 1 ≤ n ∧ n ≤ 256 ∧ P + sz * n ≤ bs.length) (∀ q, kk (.tuple #[.pointer (some ⟨q, 0, none⟩), .int .i64 0]) (poolV q p P sz (List.replicate n 0) :: memA p bs lt :: R))) :=
  ⟨fun kk h => ⟨_, R, _, by rw [hx.h, hy.h, hz.h]; exact newpool_at h.l.1 h.l.2.1 h.l.2.2.1 h.l.2.2.2, .cons hm.h (.nil _), fun v L' hv => by obtain ⟨q, f1, f2⟩ := hv; rw [f1, f2]; exact h.r q⟩⟩

end Go.Proofs.Ytfgpnipnaaeafaa

