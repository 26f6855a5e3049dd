/- Lemmas for the proofs of this seat: no statement of the seat is claimed here. -/
import Derived.Test.YtfgpnipnaaeafaaKu
set_option linter.all false

namespace Go.Proofs.Ytfgpnipnaaeafaa
open Go Pw
set_option maxRecDepth 20000
set_option maxHeartbeats 4000000
set_option synthInstance.maxHeartbeats 400000
set_option synthInstance.maxSize 4000
set_option maxHeartbeats 8000000

section
variable {P : Program} {r : Rd} {c : Ctx} {ns : List Nat} {ops : Array Oper} {Q : Exit → Env → Rd → World → Prop} {K : List Assn} {s : Sci} {L : List Assn} {E : Env}
theorem atDS (h : US P r c ns ops Q K s L E) : US P r c ns ops Q K s L E := h
theorem atDN {i : Nat} (h : UN P r c ns ops Q K i s L E) : UN P r c ns ops Q K i s L E := h
theorem atDSK (h : USK P r c ns ops Q K s L E) : USK P r c ns ops Q K s L E := h
end

def rndN (n : Nat) : Nat := (n + 15) ^^^ ((n + 15) &&& 15)
/-- How many bytes a disk takes, where it may be. -/
def dszN (a s : Nat) : Nat := rndN (sizeE (a : Nat)) + s * 1041
theorem rnd_eq (n : Nat) : rndN n = (n + 15) / 16 * 16 := by
  unfold rndN
  have h1 : (n + 15) &&& 15 = (n + 15) % 16 := Nat.and_two_pow_sub_one_eq_mod (n + 15) 4
  rw [h1]
  have h2 : (n + 15) = 2 ^ 4 * ((n + 15) / 16) + (n + 15) % 16 := by omega
  have h3 : (n + 15) % 16 < 2 ^ 4 := by omega
  have h4 : (n + 15) ^^^ ((n + 15) % 16) = 2 ^ 4 * ((n + 15) / 16) := by
    conv => lhs; lhs; rw [h2]
    apply Nat.eq_of_testBit_eq
    intro i
    rw [Nat.testBit_xor, Nat.testBit_two_pow_mul_add _ h3, Nat.testBit_two_pow_mul]
    by_cases h5 : i < 4
    · rw [if_pos h5]; simp; omega
    · rw [if_neg h5, Nat.testBit_lt_two_pow (x := (n + 15) % 16) (i := i) (Nat.lt_of_lt_of_le h3 (Nat.pow_le_pow_right (by omega) (by omega)))]
      simp; omega
  rw [h4]; omega

/-- A request that waits. -/
structure Ask where
  (id block at_ : Nat)
abbrev askV (a : Ask) : Value := .agg #[.int .u32 (a.id : Nat), .int .u32 (a.block : Nat), .int .u32 (a.at_ : Nat)]
abbrev AC := List (Nat × Ask)
def ask0 : Ask := ⟨0, 0, 0⟩
theorem _root_.Pw.Re.lkJ1 {P : Program} {c : Ctx} {L R : List Assn} {t kt et : TypeId} {k : IntKind} {b : Nat} {υ : Type} {l : List (Nat × υ)} {x : Int} {n : Nat} (ev : υ → Value) {z : Value} [ht : Und P t (.map kt et)] [hk : Und P kt (.int k)] [hz : Zr P et z] [hm : Fam (mapJ ev) L b (k, l) R] [hn : Nn x n] : Re P c L (.lookup t (.map (some b)) (.int k x) false) (fun q => q (((atJ l n).map ev).getD z)) :=
  ⟨fun E d op ty pos af g hs q hq => by
    cases hs with | lookup e1 e2 =>
    rw [hn.h] at e2
    refine ⟨_, D.mlk e1 e2 ht.h hk.h hz.h (Del.lmem hm.h), ?_⟩
    rw [atI_mapJ]
    exact hq⟩
--abbrev u32W (a : Nat) : Value := .int .u32 a

instance {c : Ctx} {L : List Assn} : St Try.prog c L (.mkMap 77) (fun q => ∀ b, q (.map (some b)) (mapJ askV b (.u16, []) :: L)) := St.mkMapJ askV (kt := 39) (et := 94)
instance {c : Ctx} {L R : List Assn} {b : Nat} {l : AC} [hm : Fam (mapJ askV) L b (.u16, l) R] : Re Try.prog c L (.builtin .len [.map (some b)] [77]) (fun q => q (.int .i64 (l.length : Nat))) := Re.lenJ askV (kt := 39) (et := 94)
instance {c : Ctx} {L R : List Assn} {b n : Nat} {x : Int} {l : AC} [hm : Fam (mapJ askV) L b (.u16, l) R] [hn : Nn x n] : Re Try.prog c L (.lookup 77 (.map (some b)) (.int .u16 x) false) (fun q => q (askV ((atJ l n).getD ask0))) := ⟨fun E d op ty pos af g hs q hq => (Re.lkJ1 askV (kt := 39) (et := 94)).go E d op ty pos af g hs q (by cases h : atJ l n <;> (rw [h] at hq; exact hq))⟩
instance {c : Ctx} {L R : List Assn} {b n i1 i2 i3 : Nat} {x y1 y2 y3 : Int} {l : AC} [hm : Fam (mapJ askV) L b (.u16, l) R] [hn : Nn x n] [h1 : Nn y1 i1] [h2 : Nn y2 i2] [h3 : Nn y3 i3] : St Try.prog c L (.update 77 (.map (some b)) (.int .u16 x) (.agg #[.int .u32 y1, .int .u32 y2, .int .u32 y3])) (fun q => Vc (n ∉ l.map (·.1)) (q undef (mapJ askV b (.u16, l ++ [(n, ⟨i1, i2, i3⟩)]) :: R))) := St.upJ askV (kt := 39) (et := 94) (p := ⟨i1, i2, i3⟩) (by rw [h1.h, h2.h, h3.h])
instance {c : Ctx} {L R : List Assn} {b n : Nat} {x : Int} {l : AC} [hm : Fam (mapJ askV) L b (.u16, l) R] [hn : Nn x n] : St Try.prog c L (.builtin .delete [.map (some b), .int .u16 x] [77, 39]) (fun q => q (.tuple #[]) (mapJ askV b (.u16, Pw.delJ l n) :: R)) := St.delJ askV (kt := 39) (et := 94)
theorem conf_spec  :
    Sat Try.prog 10 [] [] (fun u L' => u = .agg #[.int .i64 8, .int .i64 2, .int .u32 8] ∧ L' = []) := by
  all_goals
    refine Sat.enter Try.func10 rfl Try.ntmps10 rfl (fun c R => ?_)
    try simp only [List.cons_append, List.nil_append]
    repeat' (first
      | (exact Fini.of ⟨rfl, rfl⟩ (by repeat first | exact Imp.refl _ | (apply Imp.pull; focus ((repeat first | exact Del.head _ _ | apply Del.tail); done)) | apply Imp.drop))
      | refine And.intro (fun hc => ?_) (fun hc => ?_)
      | refine And.intro ?_ ?_
      | intro b
      | refine stp ?_
      | refine TQ.finC ?_
      | refine TQ.finC2 ?_
      | refine TQ.finC3 ?_
      | refine ⟨fun hc => ?_, fun hc => ?_⟩
      | refine Ei.f ?_
      | refine ⟨?_, ?_⟩
      | intro b
      | exact absurd rfl hc
      | exact absurd hc (by decide)
      | omega
      | (dsimp only; omega)
      | fail)
instance {L : List Assn} : FnR Try.prog 10 [] L (fun kk => kk (.agg #[.int .i64 8, .int .i64 2, .int .u32 8]) L) := ⟨fun kk h => ⟨[], L, _, conf_spec, .nil _, fun v L' hv => by rw [hv.1, hv.2]; exact h⟩⟩
theorem rounded_spec (n : Nat) (h : n ≤ 1048576) :
    Sat Try.prog 25 [.int .i64 (n : Nat)] [] (fun u L' => u = .int .i64 (rndN n : Nat) ∧ L' = []) := by
  all_goals
    refine Sat.enter Try.func25 rfl Try.ntmps25 rfl (fun c R => ?_)
    try simp only [List.cons_append, List.nil_append]
    repeat' (first
      | (exact Fini.of ⟨rfl, rfl⟩ (by repeat first | exact Imp.refl _ | (apply Imp.pull; focus ((repeat first | exact Del.head _ _ | apply Del.tail); done)) | apply Imp.drop))
      | refine And.intro (fun hc => ?_) (fun hc => ?_)
      | refine And.intro ?_ ?_
      | intro b
      | refine stp ?_
      | refine TQ.finC ?_
      | refine TQ.finC2 ?_
      | refine TQ.finC3 ?_
      | refine ⟨fun hc => ?_, fun hc => ?_⟩
      | refine Ei.f ?_
      | refine ⟨?_, ?_⟩
      | intro b
      | exact absurd rfl hc
      | exact absurd hc (by decide)
      | omega
      | (dsimp only; omega)
      | fail)
instance {L : List Assn} {x : Int} {n : Nat} [hx : Nn x n] : FnR Try.prog 25 [.int .i64 x] L (fun kk => Vc (n ≤ 1048576) (kk (.int .i64 (rndN n : Nat)) L)) := ⟨fun kk h => ⟨[], L, _, by rw [hx.h]; exact rounded_spec n h.l, .nil _, fun v L' hq => by rw [hq.1, hq.2]; exact h.r⟩⟩
theorem dsize_spec (a s b : Nat) (ha : a ≤ 256) (ha0 : 0 < sizeE (a : Nat)) (hs : 1 ≤ s) (hs2 : s ≤ 32) (hb : 1 ≤ b) (hb2 : b ≤ 65536) :
    Sat Try.prog 9 [.agg #[.int .i64 (a : Nat), .int .i64 (s : Nat), .int .u32 (b : Nat)]] [] (fun u L' => u = .int .i64 (dszN a s : Nat) ∧ L' = []) := by
  have ha1 := sizeE_le (a : Nat)
  have ha2 := rnd_eq (sizeE (a : Nat))
  all_goals
    refine Sat.enter Try.func9 rfl Try.ntmps9 rfl (fun c R => ?_)
    try simp only [List.cons_append, List.nil_append]
    repeat' (first
      | (exact Fini.of ⟨rfl, rfl⟩ (by repeat first | exact Imp.refl _ | (apply Imp.pull; focus ((repeat first | exact Del.head _ _ | apply Del.tail); done)) | apply Imp.drop))
      | refine T.pk 4 [1] (.p 0 (.p 2 (.g 3 (.p 4 (.n 1 (.p 5 (.p 6 .fin))))))) ?_
      | refine And.intro (fun hc => ?_) (fun hc => ?_)
      | refine And.intro ?_ ?_
      | intro b
      | ((first | refine atDS ?_ | refine atDSK ?_ | refine atDN ?_); refine stk ?_)
      | refine stp ?_
      | refine TQ.finC ?_
      | refine TQ.finC2 ?_
      | refine TQ.finC3 ?_
      | refine ⟨fun hc => ?_, fun hc => ?_⟩
      | refine Ei.f ?_
      | refine ⟨?_, ?_⟩
      | intro b
      | exact absurd rfl hc
      | exact absurd hc (by decide)
      | omega
      | (dsimp only; omega)
      | fail)
instance {L : List Assn} {x y z : Int} {a s b : Nat} [hx : Nn x a] [hy : Nn y s] [hz : Nn z b] : FnR Try.prog 9 [.agg #[.int .i64 x, .int .i64 y, .int .u32 z]] L (fun kk => Vc (a ≤ 256 ∧ 0 < sizeE (a : Nat) ∧ 1 ≤ s ∧ s ≤ 32 ∧ 1 ≤ b ∧ b ≤ 65536) (kk (.int .i64 (dszN a s : Nat)) L)) := ⟨fun kk h => ⟨[], L, _, by rw [hx.h, hy.h, hz.h]; exact dsize_spec a s b h.l.1 h.l.2.1 h.l.2.2.1 h.l.2.2.2.1 h.l.2.2.2.2.1 h.l.2.2.2.2.2, .nil _, fun v L' hv => by rw [hv.1, hv.2]; exact h.r⟩⟩
theorem ring_spec (d p r q m : Nat) (bl nx : Int) (fl : Bool) :
    Sat Try.prog 12 [.pointer (some ⟨d, 0, none⟩)] [row 79 d [.pointer (some ⟨p, 0, none⟩), .pointer (some ⟨r, 0, none⟩), .pointer (some ⟨q, 0, none⟩), .int .u32 bl, .map (some m), .int .u32 nx, .bool fl]] (fun u L' => u = .pointer (some ⟨r, 0, none⟩) ∧ L' = [row 79 d [.pointer (some ⟨p, 0, none⟩), .pointer (some ⟨r, 0, none⟩), .pointer (some ⟨q, 0, none⟩), .int .u32 bl, .map (some m), .int .u32 nx, .bool fl]]) := by
  all_goals
    refine Sat.enter Try.func12 rfl Try.ntmps12 rfl (fun c R => ?_)
    try simp only [List.cons_append, List.nil_append]
    repeat' (first
      | (exact Fini.of ⟨rfl, rfl⟩ (by repeat first | exact Imp.refl _ | (apply Imp.pull; focus ((repeat first | exact Del.head _ _ | apply Del.tail); done)) | apply Imp.drop))
      | refine And.intro (fun hc => ?_) (fun hc => ?_)
      | refine And.intro ?_ ?_
      | intro b
      | refine stp ?_
      | refine TQ.finC ?_
      | refine TQ.finC2 ?_
      | refine TQ.finC3 ?_
      | refine ⟨fun hc => ?_, fun hc => ?_⟩
      | refine Ei.f ?_
      | refine ⟨?_, ?_⟩
      | intro b
      | exact absurd rfl hc
      | exact absurd hc (by decide)
      | omega
      | (dsimp only; omega)
      | fail)
instance {L R : List Assn} {d p r q m : Nat} {bl nx : Int} {fl : Bool} [h1 : RowDel L d 79 [.pointer (some ⟨p, 0, none⟩), .pointer (some ⟨r, 0, none⟩), .pointer (some ⟨q, 0, none⟩), .int .u32 bl, .map (some m), .int .u32 nx, .bool fl] R] : FnR Try.prog 12 [.pointer (some ⟨d, 0, none⟩)] L (fun kk => kk (.pointer (some ⟨r, 0, none⟩)) (row 79 d [.pointer (some ⟨p, 0, none⟩), .pointer (some ⟨r, 0, none⟩), .pointer (some ⟨q, 0, none⟩), .int .u32 bl, .map (some m), .int .u32 nx, .bool fl] :: R)) := ⟨fun kk h => ⟨_, R, _, ring_spec d p r q m bl nx fl, .cons h1.h (.nil _), fun v L' hv => by rw [hv.1, hv.2]; exact h⟩⟩
theorem failed_spec (d p r q m : Nat) (bl nx : Int) (fl : Bool) :
    Sat Try.prog 16 [.pointer (some ⟨d, 0, none⟩)] [row 79 d [.pointer (some ⟨p, 0, none⟩), .pointer (some ⟨r, 0, none⟩), .pointer (some ⟨q, 0, none⟩), .int .u32 bl, .map (some m), .int .u32 nx, .bool fl]] (fun u L' => u = .bool fl ∧ L' = [row 79 d [.pointer (some ⟨p, 0, none⟩), .pointer (some ⟨r, 0, none⟩), .pointer (some ⟨q, 0, none⟩), .int .u32 bl, .map (some m), .int .u32 nx, .bool fl]]) := by
  all_goals
    refine Sat.enter Try.func16 rfl Try.ntmps16 rfl (fun c R => ?_)
    try simp only [List.cons_append, List.nil_append]
    repeat' (first
      | (exact Fini.of ⟨rfl, rfl⟩ (by repeat first | exact Imp.refl _ | (apply Imp.pull; focus ((repeat first | exact Del.head _ _ | apply Del.tail); done)) | apply Imp.drop))
      | refine And.intro (fun hc => ?_) (fun hc => ?_)
      | refine And.intro ?_ ?_
      | intro b
      | refine stp ?_
      | refine TQ.finC ?_
      | refine TQ.finC2 ?_
      | refine TQ.finC3 ?_
      | refine ⟨fun hc => ?_, fun hc => ?_⟩
      | refine Ei.f ?_
      | refine ⟨?_, ?_⟩
      | intro b
      | exact absurd rfl hc
      | exact absurd hc (by decide)
      | omega
      | (dsimp only; omega)
      | fail)
instance {L R : List Assn} {d p r q m : Nat} {bl nx : Int} {fl : Bool} [h1 : RowDel L d 79 [.pointer (some ⟨p, 0, none⟩), .pointer (some ⟨r, 0, none⟩), .pointer (some ⟨q, 0, none⟩), .int .u32 bl, .map (some m), .int .u32 nx, .bool fl] R] : FnR Try.prog 16 [.pointer (some ⟨d, 0, none⟩)] L (fun kk => kk (.bool fl) (row 79 d [.pointer (some ⟨p, 0, none⟩), .pointer (some ⟨r, 0, none⟩), .pointer (some ⟨q, 0, none⟩), .int .u32 bl, .map (some m), .int .u32 nx, .bool fl] :: R)) := ⟨fun kk h => ⟨_, R, _, failed_spec d p r q m bl nx fl, .cons h1.h (.nil _), fun v L' hv => by rw [hv.1, hv.2]; exact h⟩⟩
theorem waits_spec (d p r q m : Nat) (bl nx : Int) (fl : Bool) (K : AC) :
    Sat Try.prog 20 [.pointer (some ⟨d, 0, none⟩)] [row 79 d [.pointer (some ⟨p, 0, none⟩), .pointer (some ⟨r, 0, none⟩), .pointer (some ⟨q, 0, none⟩), .int .u32 bl, .map (some m), .int .u32 nx, .bool fl], mapJ askV m (.u16, K)] (fun u L' => u = .int .i64 (K.length : Nat) ∧ L' = [row 79 d [.pointer (some ⟨p, 0, none⟩), .pointer (some ⟨r, 0, none⟩), .pointer (some ⟨q, 0, none⟩), .int .u32 bl, .map (some m), .int .u32 nx, .bool fl], mapJ askV m (.u16, K)]) := by
  all_goals
    refine Sat.enter Try.func20 rfl Try.ntmps20 rfl (fun c R => ?_)
    try simp only [List.cons_append, List.nil_append]
    repeat' (first
      | (exact Fini.of ⟨rfl, rfl⟩ (by repeat first | exact Imp.refl _ | (apply Imp.pull; focus ((repeat first | exact Del.head _ _ | apply Del.tail); done)) | apply Imp.drop))
      | refine And.intro (fun hc => ?_) (fun hc => ?_)
      | refine And.intro ?_ ?_
      | intro b
      | refine stp ?_
      | refine TQ.finC ?_
      | refine TQ.finC2 ?_
      | refine TQ.finC3 ?_
      | refine ⟨fun hc => ?_, fun hc => ?_⟩
      | refine Ei.f ?_
      | refine ⟨?_, ?_⟩
      | intro b
      | exact absurd rfl hc
      | exact absurd hc (by decide)
      | omega
      | (dsimp only; omega)
      | fail)
instance {L R R1 : List Assn} {d p r q m : Nat} {bl nx : Int} {fl : Bool} {K : AC} [h1 : RowDel L d 79 [.pointer (some ⟨p, 0, none⟩), .pointer (some ⟨r, 0, none⟩), .pointer (some ⟨q, 0, none⟩), .int .u32 bl, .map (some m), .int .u32 nx, .bool fl] R1] [h2 : Fam (mapJ askV) R1 m (.u16, K) R] : FnR Try.prog 20 [.pointer (some ⟨d, 0, none⟩)] L (fun kk => kk (.int .i64 (K.length : Nat)) (row 79 d [.pointer (some ⟨p, 0, none⟩), .pointer (some ⟨r, 0, none⟩), .pointer (some ⟨q, 0, none⟩), .int .u32 bl, .map (some m), .int .u32 nx, .bool fl] :: mapJ askV m (.u16, K) :: R)) := ⟨fun kk h => ⟨_, R, _, waits_spec d p r q m bl nx fl K, .cons h1.h (.cons h2.h (.nil _)), fun v L' hv => by rw [hv.1, hv.2]; exact h⟩⟩
theorem dring_nil  :
    Sat Try.prog 12 [.pointer none] [] (fun u L' => u = .pointer none ∧ L' = []) := by
  all_goals
    refine Sat.enter Try.func12 rfl Try.ntmps12 rfl (fun c R => ?_)
    try simp only [List.cons_append, List.nil_append]
    repeat' (first
      | (exact Fini.of ⟨rfl, rfl⟩ (by repeat first | exact Imp.refl _ | (apply Imp.pull; focus ((repeat first | exact Del.head _ _ | apply Del.tail); done)) | apply Imp.drop))
      | refine And.intro (fun hc => ?_) (fun hc => ?_)
      | refine And.intro ?_ ?_
      | intro b
      | refine stp ?_
      | refine TQ.finC ?_
      | refine TQ.finC2 ?_
      | refine TQ.finC3 ?_
      | refine ⟨fun hc => ?_, fun hc => ?_⟩
      | refine Ei.f ?_
      | refine ⟨?_, ?_⟩
      | intro b
      | exact absurd rfl hc
      | exact absurd hc (by decide)
      | omega
      | (dsimp only; omega)
      | fail)
instance {L : List Assn}  : FnR Try.prog 12 [.pointer none] L (fun kk => kk (.pointer none) L) := ⟨fun kk h => ⟨[], L, _, dring_nil, .nil _, fun v L' hv => by rw [hv.1, hv.2]; exact h⟩⟩
theorem dfailed_nil  :
    Sat Try.prog 16 [.pointer none] [] (fun u L' => u = .bool false ∧ L' = []) := by
  all_goals
    refine Sat.enter Try.func16 rfl Try.ntmps16 rfl (fun c R => ?_)
    try simp only [List.cons_append, List.nil_append]
    repeat' (first
      | (exact Fini.of ⟨rfl, rfl⟩ (by repeat first | exact Imp.refl _ | (apply Imp.pull; focus ((repeat first | exact Del.head _ _ | apply Del.tail); done)) | apply Imp.drop))
      | refine And.intro (fun hc => ?_) (fun hc => ?_)
      | refine And.intro ?_ ?_
      | intro b
      | refine stp ?_
      | refine TQ.finC ?_
      | refine TQ.finC2 ?_
      | refine TQ.finC3 ?_
      | refine ⟨fun hc => ?_, fun hc => ?_⟩
      | refine Ei.f ?_
      | refine ⟨?_, ?_⟩
      | intro b
      | exact absurd rfl hc
      | exact absurd hc (by decide)
      | omega
      | (dsimp only; omega)
      | fail)
instance {L : List Assn}  : FnR Try.prog 16 [.pointer none] L (fun kk => kk (.bool false) L) := ⟨fun kk h => ⟨[], L, _, dfailed_nil, .nil _, fun v L' hv => by rw [hv.1, hv.2]; exact h⟩⟩
theorem dwaits_nil  :
    Sat Try.prog 20 [.pointer none] [] (fun u L' => u = .int .i64 0 ∧ L' = []) := by
  all_goals
    refine Sat.enter Try.func20 rfl Try.ntmps20 rfl (fun c R => ?_)
    try simp only [List.cons_append, List.nil_append]
    repeat' (first
      | (exact Fini.of ⟨rfl, rfl⟩ (by repeat first | exact Imp.refl _ | (apply Imp.pull; focus ((repeat first | exact Del.head _ _ | apply Del.tail); done)) | apply Imp.drop))
      | refine And.intro (fun hc => ?_) (fun hc => ?_)
      | refine And.intro ?_ ?_
      | intro b
      | refine stp ?_
      | refine TQ.finC ?_
      | refine TQ.finC2 ?_
      | refine TQ.finC3 ?_
      | refine ⟨fun hc => ?_, fun hc => ?_⟩
      | refine Ei.f ?_
      | refine ⟨?_, ?_⟩
      | intro b
      | exact absurd rfl hc
      | exact absurd hc (by decide)
      | omega
      | (dsimp only; omega)
      | fail)
instance {L : List Assn}  : FnR Try.prog 20 [.pointer none] L (fun kk => kk (.int .i64 0) L) := ⟨fun kk h => ⟨[], L, _, dwaits_nil, .nil _, fun v L' hv => by rw [hv.1, hv.2]; exact h⟩⟩
theorem dread_nil (x : Int) :
    Sat Try.prog 15 [.pointer none, .int .u32 x] [] (fun u L' => u = .tuple #[.int .u32 0, .int .i64 1] ∧ L' = []) := by
  all_goals
    refine Sat.enter Try.func15 rfl Try.ntmps15 rfl (fun c R => ?_)
    try simp only [List.cons_append, List.nil_append]
    repeat' (first
      | (exact Fini.of ⟨rfl, rfl⟩ (by repeat first | exact Imp.refl _ | (apply Imp.pull; focus ((repeat first | exact Del.head _ _ | apply Del.tail); done)) | apply Imp.drop))
      | refine T.pl 21 [12] (.p 0 (.p 1 (.p 4 (.p 5 (.p 6 (.p 9 (.p 10 (.d 2 (.d 3 (.d 7 (.d 8 (.p 11 (.n 12 .fin))))))))))))) ?_
      | refine And.intro (fun hc => ?_) (fun hc => ?_)
      | refine And.intro ?_ ?_
      | intro b
      | refine stp ?_
      | refine TQ.finC ?_
      | refine TQ.finC2 ?_
      | refine TQ.finC3 ?_
      | refine ⟨fun hc => ?_, fun hc => ?_⟩
      | refine Ei.f ?_
      | refine ⟨?_, ?_⟩
      | intro b
      | exact absurd rfl hc
      | exact absurd hc (by decide)
      | omega
      | (dsimp only; omega)
      | fail)
instance {L : List Assn} {x : Int} : FnR Try.prog 15 [.pointer none, .int .u32 x] L (fun kk => kk (.tuple #[.int .u32 0, .int .i64 1]) L) := ⟨fun kk h => ⟨[], L, _, dread_nil x, .nil _, fun v L' hv => by rw [hv.1, hv.2]; exact h⟩⟩
theorem dnew_nil  :
    Sat Try.prog 11 [.pointer none, .int .u32 0, .agg #[.int .i64 8, .int .i64 2, .int .u32 8]] [] (fun u L' => u = .tuple #[.pointer none, .int .i64 1] ∧ L' = []) := by
  all_goals
    refine Sat.enter Try.func11 rfl Try.ntmps11 rfl (fun c R => ?_)
    try simp only [List.cons_append, List.nil_append]
    repeat' (first
      | (exact Fini.of ⟨rfl, rfl⟩ (by repeat first | exact Imp.refl _ | (apply Imp.pull; focus ((repeat first | exact Del.head _ _ | apply Del.tail); done)) | apply Imp.drop))
      | refine T.pl 8 [4, 5, 10] (.p 0 (.p 1 (.d 2 (.d 3 (.p 8 (.b2 4 (.b2 5 (.p 6 (.p 7 (.d 9 (.n 10 (.p 11 (.p 12 (.p 13 (.p 14 (.p 15 .fin))))))))) 9 (.n 5 (.p 6 (.p 7 (.n 10 (.p 11 (.p 12 (.p 13 (.p 14 (.p 15 .fin)))))))))) 9 (.n 4 (.n 5 (.p 6 (.p 7 (.n 10 (.p 11 (.p 12 (.p 13 (.p 14 (.p 15 .fin)))))))))))))))) ?_
      | refine And.intro (fun hc => ?_) (fun hc => ?_)
      | refine And.intro ?_ ?_
      | intro b
      | refine stp ?_
      | refine TQ.finC ?_
      | refine TQ.finC2 ?_
      | refine TQ.finC3 ?_
      | refine ⟨fun hc => ?_, fun hc => ?_⟩
      | refine Ei.f ?_
      | refine ⟨?_, ?_⟩
      | intro b
      | exact absurd rfl hc
      | exact absurd hc (by decide)
      | omega
      | (dsimp only; omega)
      | fail)
instance {L : List Assn}  : FnR Try.prog 11 [.pointer none, .int .u32 0, .agg #[.int .i64 8, .int .i64 2, .int .u32 8]] L (fun kk => kk (.tuple #[.pointer none, .int .i64 1]) L) := ⟨fun kk h => ⟨[], L, _, dnew_nil, .nil _, fun v L' hv => by rw [hv.1, hv.2]; exact h⟩⟩
/-- The bytes of a block, by a number. -/
def blkE (n : Nat) : List UInt8 := (List.range 1024).map fun i => UInt8.ofNat (n + i)
def blkF (n i : Nat) : List UInt8 := ((List.range i).map fun j => UInt8.ofNat (n + j)) ++ List.replicate (1024 - i) 0
theorem blkF_len {n i : Nat} (h : i ≤ 1024) : (blkF n i).length = 1024 := by unfold blkF; rw [List.length_append, List.length_map, List.length_range, List.length_replicate]; omega
theorem blkE_len (n : Nat) : (blkE n).length = 1024 := by unfold blkE; rw [List.length_map, List.length_range]
theorem blkF_end (n : Nat) : blkF n 1024 = blkE n := by unfold blkF blkE; rw [Nat.sub_self, List.replicate_zero, List.append_nil]
theorem blkF_set {n i : Nat} (h : i < 1024) : (blkF n i).set i (UInt8.ofNat (n + i % 256)) = blkF n (i + 1) := by
  rw [show UInt8.ofNat (n + i % 256) = UInt8.ofNat (n + i) from UInt8.toNat_inj.1 (by simp)]
  unfold blkF
  rw [List.set_append_right _ _ (by simp), List.length_map, List.length_range, Nat.sub_self, show 1024 - i = (1024 - (i + 1)) + 1 by omega, List.replicate_succ, List.set_cons_zero, List.range_succ, List.map_append, List.append_assoc]; rfl
theorem imp_dk {v : Value} {c : Nat} {L R : List Assn} (h : Del (Pw.sl 5 (0 + 1) v 1024 ((List.replicate 1024 0).map byteV)) L R) : Imp L (Pw.sl 5 (0 + 1) v 1024 ((blkF c 0).map byteV) :: R) := by
  unfold blkF
  rw [List.range_zero, List.map_nil, List.nil_append, Nat.sub_zero]
  exact Imp.pull h (Imp.refl R)
attribute [local irreducible] blkF
theorem block_spec (n : Nat) (hn : n < 256) :
    Sat Try.prog 18 [.int .u8 (n : Nat)] [] (fun u L' => u = str (blkE n) ∧ L' = []) := by
  have hgo : True := trivial
  all_goals
    refine Sat.enter Try.func18 rfl Try.ntmps18 rfl (fun c R => ?_)
    try simp only [List.cons_append, List.nil_append]
    repeat' (first
      | (refine T.atB 0 ?_; obtain ⟨b5, hb5⟩ : ∃ x, x = b := ⟨_, rfl⟩; subst hb5; refine T.ent (Ent.imp (imp_dk (c := n) (by repeat first | exact Del.head _ _ | apply Del.tail))) ?_; refine T.lpa 0 [(0, _), (2, _), (3, _)] (0 : Nat) (fun i => [(4, .int .i64 (i : Nat))]) (fun i => [Pw.sl 5 (0 + 1) (.slice (some ⟨b5, 0, none⟩) 1024 1024) 1024 ((blkF n i).map byteV)]) (fun i => i ≤ 1024) (fun i => 1024 - i) (Nat.zero_le _) ?_; rintro i g hi; have hll : i < 1024 → i < (blkF n i).length := (fun h => by rw [blkF_len (by omega)]; exact h); simp only [List.cons_append, List.nil_append, appR])
      | (refine TQ.atL ?_; rw [blkF_set (by assumption)]; refine TQ.rd (i + 1 : Nat) rfl (by repeat first | exact trivial | refine ⟨rfl, ?_⟩) (by first | omega | fail) (by omega) (Ent.imp (by repeat first | exact Imp.refl _ | (apply Imp.pull; focus ((repeat first | exact Del.head _ _ | apply Del.tail); done)) | apply Imp.drop)))
      | (refine T.atR 6 ?_; clear hgo; obtain rfl : i = 1024 := (by omega); rw [blkF_end])
      | (exact Fini.of ⟨rfl, rfl⟩ (by repeat first | exact Imp.refl _ | (apply Imp.pull; focus ((repeat first | exact Del.head _ _ | apply Del.tail); done)) | apply Imp.drop))
      | exact hll (by assumption)
      | refine And.intro (fun hc => ?_) (fun hc => ?_)
      | refine And.intro ?_ ?_
      | intro b
      | refine stp ?_
      | refine TQ.finC ?_
      | refine TQ.finC2 ?_
      | refine TQ.finC3 ?_
      | refine ⟨fun hc => ?_, fun hc => ?_⟩
      | refine Ei.f ?_
      | refine ⟨?_, ?_⟩
      | intro b
      | exact absurd rfl hc
      | exact absurd hc (by decide)
      | omega
      | (dsimp only; omega)
      | fail)
instance {L : List Assn} {x : Int} {n : Nat} [hx : Nn x n] : FnR Try.prog 18 [.int .u8 x] L (fun kk => Vc (n < 256) (kk (str (blkE n)) L)) := ⟨fun kk h => ⟨[], L, _, by rw [hx.h]; exact block_spec n h.l, .nil _, fun v L' hv => by rw [hv.1, hv.2]; exact h.r⟩⟩

end Go.Proofs.Ytfgpnipnaaeafaa


namespace Go.Proofs.Ytfgpnipnaaeafaa
open Go Pw
set_option maxRecDepth 20000
set_option maxHeartbeats 4000000
set_option synthInstance.maxHeartbeats 400000
set_option synthInstance.maxSize 4000
set_option maxHeartbeats 8000000
theorem chain_spec (r p at_ nx ls mp tc h : Nat) (br : Bool) (ta : Option Addr) (X : XC) (tk : List Bool) (ch : Ch) (hX : atJ X h = some ch) (hl : 0 < ch.l.length) (hl8 : ch.l.length ≤ 8) :
    Sat Try.prog 34 [.pointer (some ⟨r, 0, none⟩), .int .u16 (h : Nat)] [row 84 r [.pointer (some ⟨p, 0, none⟩), .int .u32 at_, .int .i64 (tk.length : Nat), .map (some mp), .slice ta tk.length tc, .int .u16 nx, .int .u16 ls, .bool br], mapJ chV mp (.u16, X), famC X] (fun u L' => ∃ a2 k2, u = .tuple #[.slice a2 ch.l.length k2, .int .i64 0] ∧ L' = [row 84 r [.pointer (some ⟨p, 0, none⟩), .int .u32 at_, .int .i64 (tk.length : Nat), .map (some mp), .slice ta tk.length tc, .int .u16 nx, .int .u16 ls, .bool br], mapJ chV mp (.u16, X), famC X, Pw.sl 90 (2 + 1) (.slice a2 ch.l.length k2) ch.l.length (ch.l.flatMap bufV)]) := by
  have hgo : True := trivial
  all_goals
    refine Sat.enter Try.func34 rfl Try.ntmps34 rfl (fun c R => ?_)
    try simp only [List.cons_append, List.nil_append]
    repeat' (first
      | (refine T.atR 6 ?_; clear hgo; refine T.ent (Ent.imp (famC_at (by repeat first | exact Del.head _ _ | apply Del.tail) hX)) ?_)
      | (refine finAt ?_; exact Fini.of ⟨_, _, rfl, rfl⟩ (by repeat first | exact Imp.refl _ | (apply Imp.pull; focus ((repeat first | exact Del.head _ _ | apply Del.tail); done)) | (refine Imp.pullC (by repeat first | exact Del.head _ _ | apply Del.tail) (by repeat first | exact Del.head _ _ | apply Del.tail) (by repeat first | exact Del.head _ _ | apply Del.tail) hX ?_) | apply Imp.drop))
      | refine And.intro (fun hc => ?_) (fun hc => ?_)
      | refine And.intro ?_ ?_
      | intro b
      | refine stp ?_
      | refine TQ.finC ?_
      | refine TQ.finC2 ?_
      | refine TQ.finC3 ?_
      | refine ⟨fun hc => ?_, fun hc => ?_⟩
      | refine Ei.f ?_
      | refine ⟨?_, ?_⟩
      | intro b
      | exact absurd rfl hc
      | exact absurd hc (by decide)
      | omega
      | (dsimp only; omega)
      | fail)
theorem chain_at {r p at_ nx ls h : Nat} {br : Bool} {X : XC} {tk : List Bool} {ch : Ch} (hX : atJ X h = some ch) (hl : 0 < ch.l.length) (hl8 : ch.l.length ≤ 8) : Sat Try.prog 34 [.pointer (some ⟨r, 0, none⟩), .int .u16 (h : Nat)] [rgA r p at_ X tk nx ls br] (fun u L' => ∃ a2 k2, u = .tuple #[.slice a2 ch.l.length k2, .int .i64 0] ∧ L' = [rgA r p at_ X tk nx ls br, Pw.sl 90 (2 + 1) (.slice a2 ch.l.length k2) ch.l.length (ch.l.flatMap bufV)]) := by
  refine Sat.openA1 ?_
  rintro ⟨mp, ta, tc⟩ -
  refine Sat.imp ?_ (((chain_spec r p at_ nx ls mp tc h br ta X tk ch hX hl hl8).frame (F := [Pw.sl 4 (0 + 1) (.slice ta tk.length tc) tk.length (tk.map Value.bool)])).post ?_)
  rotate_left
  · rintro u L' ⟨_, ⟨a2, k2, rfl, rfl⟩, rfl⟩
    refine ⟨_, Imp.shutA (R := [Pw.sl 90 (2 + 1) (.slice a2 ch.l.length k2) ch.l.length (ch.l.flatMap bufV)]) (mp, ta, tc) trivial ?_, a2, k2, rfl, rfl⟩
    simp only [List.cons_append, List.nil_append]
    repeat first | exact Imp.refl _ | (apply Imp.pull; focus ((repeat first | exact Del.head _ _ | apply Del.tail); done)) | apply Imp.drop
  · dsimp only
    simp only [List.cons_append, List.nil_append]
    repeat first | exact Imp.refl _ | (apply Imp.pull; focus ((repeat first | exact Del.head _ _ | apply Del.tail); done)) | apply Imp.drop
instance {L R : List Assn} {r p at_ nx ls h : Nat} {x : Int} {br : Bool} {X : XC} {tk : List Bool} [h1 : RgAt L r p at_ X tk nx ls br R] [hx : Nn x h] : FnR Try.prog 34 [.pointer (some ⟨r, 0, none⟩), .int .u16 x] L (fun kk => ∃ ch, (atJ X h = some ch ∧ 0 < ch.l.length ∧ ch.l.length ≤ 8) ∧ ∀ a2 k2, kk (.tuple #[.slice a2 ch.l.length k2, .int .i64 0]) (rgA r p at_ X tk nx ls br :: Pw.sl 90 (2 + 1) (.slice a2 ch.l.length k2) ch.l.length (ch.l.flatMap bufV) :: R)) :=
  ⟨fun kk hh => by
    obtain ⟨ch, h5, h6⟩ := hh
    exact ⟨_, R, _, by rw [hx.h]; exact chain_at h5.1 h5.2.1 h5.2.2, .cons h1.h (.nil _), fun v L' hv => by
      obtain ⟨a2, k2, f1, f2⟩ := hv
      rw [f1, f2]
      exact h6 a2 k2⟩⟩

end Go.Proofs.Ytfgpnipnaaeafaa

