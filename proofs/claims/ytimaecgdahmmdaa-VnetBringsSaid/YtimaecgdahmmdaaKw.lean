/- Lemmas for the proofs of this seat: no statement of the seat is claimed here. -/
import Derived.Test.YtimaecgdahmmdaaKv
import Derived.Test.YtimaecgdahmmdaaKt
import Derived.Test.YtimaecgdahmmdaaKc
set_option linter.all false

namespace Go.Proofs.Ytimaecgdahmmdaa
open Go Pw
set_option maxRecDepth 20000
set_option maxHeartbeats 4000000
set_option synthInstance.maxHeartbeats 400000
set_option synthInstance.maxSize 4000
set_option maxHeartbeats 8000000

theorem repeatL_zero (n : Nat) : Lib.repeatL [0] n = List.replicate n 0 := by
  induction n with
  | zero => rfl
  | succ n ih => rw [Lib.repeatL, ih]; rfl
theorem repeat_spec (n : Nat) (hn : n ≤ 1099511627776) : Sat Try.prog 40 [str [0], .int .i64 n] [] (fun u L' => u = str (List.replicate n 0) ∧ L' = []) :=
  Sat.of_below fun w => by
    have := Try.strings_Repeat ⟨#[0]⟩ n w (by omega) (by show 1 * n ≤ _; omega)
    rw [show (ByteArray.mk #[0]).data.toList = [0] from rfl, repeatL_zero] at this
    exact this
instance {L : List Assn} {n : Nat} {x : Int} [hx : Nn x n] : FnR Try.prog 40 [str [0], .int .i64 x] L (fun kk => Vc (n ≤ 1099511627776) (kk (str (List.replicate n 0)) L)) :=
  ⟨fun kk h => ⟨[], L, _, (by rw [hx.h]; exact repeat_spec n h.l), .nil _, fun v L' hq => by rw [hq.1, hq.2]; exact h.r⟩⟩
/-! Maps of numbers to numbers -/
theorem _root_.Pw.Re.lkJ1 {P : Program} {c : Ctx} {L R : List Assn} {t kt et : TypeId} {k : IntKind} {b : Nat} {υ : Type} {l : List (Nat × υ)} {x : Int} {n : Nat} (ev : υ → Value) {z : Value} [ht : Und P t (.map kt et)] [hk : Und P kt (.int k)] [hz : Zr P et z] [hm : Fam (mapJ ev) L b (k, l) R] [hn : Nn x n] : Re P c L (.lookup t (.map (some b)) (.int k x) false) (fun q => q (((atJ l n).map ev).getD z)) :=
  ⟨fun E d op ty pos af g hs q hq => by
    cases hs with | lookup e1 e2 =>
    rw [hn.h] at e2
    refine ⟨_, D.mlk e1 e2 ht.h hk.h hz.h (Del.lmem hm.h), ?_⟩
    rw [atI_mapJ]
    exact hq⟩
abbrev u32W (a : Nat) : Value := .int .u32 a
instance {c : Ctx} {L : List Assn} : St Try.prog c L (.mkMap 77) (fun q => ∀ b, q (.map (some b)) (mapJ u32W b (.u16, []) :: L)) := St.mkMapJ u32W (kt := 38) (et := 35)
/-- Where the buffer of each chain is. -/
def MX (X : XC) : List (Nat × Nat) := X.map fun y => (y.1, (gt y.2.l 0).at_)
theorem MX_keys (X : XC) : (MX X).map (·.1) = X.map (·.1) := by unfold MX; rw [List.map_map]; rfl
theorem MX_app (X Y : XC) : MX (X ++ Y) = MX X ++ MX Y := List.map_append
theorem MX_at (X : XC) (n : Nat) : atJ (MX X) n = (atJ X n).map fun c => (gt c.l 0).at_ := by
  unfold MX atJ
  rw [List.find?_map]
  simp only [Function.comp_def, Option.map_map]
theorem MX_del (X : XC) (n : Nat) : Pw.delJ (MX X) n = MX (Pw.delJ X n) := by
  unfold MX Pw.delJ
  rw [List.findIdx?_map]
  simp only [Function.comp_def]
  cases X.findIdx? (fun q => decide (q.1 = n)) with
  | none => rfl
  | some i => exact by simp [eraseIdx_map']
instance {c : Ctx} {L R : List Assn} {b n : Nat} {x : Int} {l : List (Nat × Nat)} [hm : Fam (mapJ u32W) L b (.u16, l) R] [hn : Nn x n] : Re Try.prog c L (.lookup 77 (.map (some b)) (.int .u16 x) false) (fun q => q (u32W ((atJ l n).getD 0))) := ⟨fun E d op ty pos af g hs q hq => (Re.lkJ1 u32W (kt := 38) (et := 35)).go E d op ty pos af g hs q (by cases h : atJ l n <;> (rw [h] at hq; exact hq))⟩
instance {c : Ctx} {L R : List Assn} {b n a : Nat} {x y : Int} {l : List (Nat × Nat)} [hm : Fam (mapJ u32W) L b (.u16, l) R] [hn : Nn x n] [ha : Nn y a] : St Try.prog c L (.update 77 (.map (some b)) (.int .u16 x) (.int .u32 y)) (fun q => Vc (n ∉ l.map (·.1)) (q undef (mapJ u32W b (.u16, l ++ [(n, a)]) :: R))) := St.upJ u32W (kt := 38) (et := 35) (by rw [ha.h])
instance {c : Ctx} {L R : List Assn} {b n : Nat} {x : Int} {l : List (Nat × Nat)} [hm : Fam (mapJ u32W) L b (.u16, l) R] [hn : Nn x n] : St Try.prog c L (.builtin .delete [.map (some b), .int .u16 x] [77, 38]) (fun q => q (.tuple #[]) (mapJ u32W b (.u16, Pw.delJ l n) :: R)) := St.delJ u32W (kt := 38) (et := 35)
/-- What Add has done, to the map. -/
structure AddM (X X' : XC) (hd e a : Nat) : Prop where
  le : e ≤ 20
  hh : hd < 65536
  no : e ≠ 0 → X' = X
  new : e = 0 → hd ∉ (MX X).map (·.1)
  ok : e = 0 → MX X' = MX X ++ [(hd, a)]
theorem add_M {at_ nx ls hd e nx' N : Nat} {bs bs' : List UInt8} {lt lt' tk tk' : List Bool} {b : Bf} {X X' : XC} {br : Bool} (h : AddP at_ bs lt [b] X tk nx br hd e bs' lt' X' tk' nx') (k : RgOk at_ N X tk nx ls) : AddM X X' hd e b.at_ := by
  cases h with
  | dead => exact ⟨by decide, by decide, fun _ => rfl, fun h => absurd h (by decide), fun h => absurd h (by decide)⟩
  | no _ _ h2 h3 => exact ⟨h2.le, by decide, fun _ => rfl, fun h => absurd h h3, fun h => absurd h h3⟩
  | lent _ _ _ _ h2 h3 => exact ⟨h2.le, by decide, fun _ => rfl, fun h => absurd h h3, fun h => absurd h h3⟩
  | done _ _ da dk ba bk _ h2 _ _ =>
    have hst := st_ok 1 (h2.ok rfl).2.2.2
    have hdl := hst.dl
    have h0 := hst.dd _ (gt_mem (show 0 < (stE tk 1).1.length by omega))
    have hx1 := hst.x1
    have hn1 := k.n1
    refine ⟨by decide, ?_, fun h => absurd rfl h, fun _ hm => ?_, fun _ => ?_⟩
    · show gt (stE tk 1).1 0 < 65536
      omega
    · rw [MX_keys] at hm
      obtain ⟨y, hy, e⟩ := List.mem_map.1 hm
      have h1 := k.tk1 _ (k.key hy)
      rw [e] at h1
      exact absurd (h1.symm.trans h0.2) (by decide)
    · rw [MX_app]; rfl
attribute [local irreducible] MX
theorem put2_spec (n p r1 q1 m1 r2 q2 m2 at_ nx ls a z : Nat) (bz l1 l2 : Int) (br w : Bool) (X : XC) (tk : List Bool) (bs : List UInt8) (lt : List Bool) (hk : RgOk at_ bs.length X tk nx ls) (ha : a < 4294967296) (hz : z < 4294967296) :
    Sat Try.prog 35 [.pointer (some ⟨n, 2, none⟩), .int .u32 a, .int .i64 z, .bool w] [row 81 n [.pointer (some ⟨p, 0, none⟩), .int .i64 bz, .pointer (some ⟨r1, 0, none⟩), .pointer (some ⟨q1, 0, none⟩), .map (some m1), .int .i64 l1, .pointer (some ⟨r2, 0, none⟩), .pointer (some ⟨q2, 0, none⟩), .map (some m2), .int .i64 l2], rgA r1 p at_ X tk nx ls br, memA p bs lt, mapJ u32W m1 (.u16, MX X)] (fun u L' => ∃ hd e bs' lt' X' tk' nx', AddP at_ bs lt [⟨a, z, w⟩] X tk nx br hd e bs' lt' X' tk' nx' ∧ u = .int .i64 (e : Nat) ∧ L' = [row 81 n [.pointer (some ⟨p, 0, none⟩), .int .i64 bz, .pointer (some ⟨r1, 0, none⟩), .pointer (some ⟨q1, 0, none⟩), .map (some m1), .int .i64 l1, .pointer (some ⟨r2, 0, none⟩), .pointer (some ⟨q2, 0, none⟩), .map (some m2), .int .i64 l2], rgA r1 p at_ X' tk' nx' ls br, memA p bs' lt', mapJ u32W m1 (.u16, MX X')]) := by
  have hbok : ∀ b ∈ [(⟨a, z, w⟩ : Bf)], b.ok := fun b hb => by rw [List.mem_singleton] at hb; subst hb; exact ⟨ha, hz⟩
  have hgo : True := trivial
  have hg3 : True := trivial
  all_goals
    refine Sat.enter Try.func35 rfl Try.ntmps35 rfl (fun c R => ?_)
    try simp only [List.cons_append, List.nil_append]
    repeat' (first
      | (refine T.atR 2 ?_; clear hgo; rename_i hd e bs2 lt2 X2 tk2 nx2; have hap := b; have ham := add_M hap hk; have hle := ham.le; have hlh := ham.hh)
      | (refine T.atR 3 ?_; clear hg3; have he0 : e = 0 := (by omega); have hnw := ham.new he0)
      | (refine finAt ?_; (first | (have hx9 := hnw; rw [← ham.ok he0]) | (have hx9 := ham.no (by omega); subst hx9)); exact Fini.of ⟨_, _, _, _, _, _, _, hap, rfl, rfl⟩ (by repeat first | exact Imp.refl _ | (apply Imp.pull; focus ((repeat first | exact Del.head _ _ | apply Del.tail); done)) | apply Imp.drop))
      | (refine Vc.mk ⟨rfl, hk, hbok, by simp⟩ ?_)
      | exact hnw
      | refine And.intro (fun hc => ?_) (fun hc => ?_)
      | refine And.intro ?_ ?_
      | intro b
      | refine stp ?_
      | refine TQ.finC ?_
      | refine TQ.finC2 ?_
      | refine TQ.finC3 ?_
      | refine ⟨fun hc => ?_, fun hc => ?_⟩
      | refine Ei.f ?_
      | refine ⟨?_, ?_⟩
      | intro b
      | exact absurd rfl hc
      | exact absurd hc (by decide)
      | omega
      | (dsimp only; omega)
      | fail)
theorem put6_spec (n p r1 q1 m1 r2 q2 m2 at_ nx ls a z : Nat) (bz l1 l2 : Int) (br w : Bool) (X : XC) (tk : List Bool) (bs : List UInt8) (lt : List Bool) (hk : RgOk at_ bs.length X tk nx ls) (ha : a < 4294967296) (hz : z < 4294967296) :
    Sat Try.prog 35 [.pointer (some ⟨n, 6, none⟩), .int .u32 a, .int .i64 z, .bool w] [row 81 n [.pointer (some ⟨p, 0, none⟩), .int .i64 bz, .pointer (some ⟨r1, 0, none⟩), .pointer (some ⟨q1, 0, none⟩), .map (some m1), .int .i64 l1, .pointer (some ⟨r2, 0, none⟩), .pointer (some ⟨q2, 0, none⟩), .map (some m2), .int .i64 l2], rgA r2 p at_ X tk nx ls br, memA p bs lt, mapJ u32W m2 (.u16, MX X)] (fun u L' => ∃ hd e bs' lt' X' tk' nx', AddP at_ bs lt [⟨a, z, w⟩] X tk nx br hd e bs' lt' X' tk' nx' ∧ u = .int .i64 (e : Nat) ∧ L' = [row 81 n [.pointer (some ⟨p, 0, none⟩), .int .i64 bz, .pointer (some ⟨r1, 0, none⟩), .pointer (some ⟨q1, 0, none⟩), .map (some m1), .int .i64 l1, .pointer (some ⟨r2, 0, none⟩), .pointer (some ⟨q2, 0, none⟩), .map (some m2), .int .i64 l2], rgA r2 p at_ X' tk' nx' ls br, memA p bs' lt', mapJ u32W m2 (.u16, MX X')]) := by
  have hbok : ∀ b ∈ [(⟨a, z, w⟩ : Bf)], b.ok := fun b hb => by rw [List.mem_singleton] at hb; subst hb; exact ⟨ha, hz⟩
  have hgo : True := trivial
  have hg3 : True := trivial
  all_goals
    refine Sat.enter Try.func35 rfl Try.ntmps35 rfl (fun c R => ?_)
    try simp only [List.cons_append, List.nil_append]
    repeat' (first
      | (refine T.atR 2 ?_; clear hgo; rename_i hd e bs2 lt2 X2 tk2 nx2; have hap := b; have ham := add_M hap hk; have hle := ham.le; have hlh := ham.hh)
      | (refine T.atR 3 ?_; clear hg3; have he0 : e = 0 := (by omega); have hnw := ham.new he0)
      | (refine finAt ?_; (first | (have hx9 := hnw; rw [← ham.ok he0]) | (have hx9 := ham.no (by omega); subst hx9)); exact Fini.of ⟨_, _, _, _, _, _, _, hap, rfl, rfl⟩ (by repeat first | exact Imp.refl _ | (apply Imp.pull; focus ((repeat first | exact Del.head _ _ | apply Del.tail); done)) | apply Imp.drop))
      | (refine Vc.mk ⟨rfl, hk, hbok, by simp⟩ ?_)
      | exact hnw
      | refine And.intro (fun hc => ?_) (fun hc => ?_)
      | refine And.intro ?_ ?_
      | intro b
      | refine stp ?_
      | refine TQ.finC ?_
      | refine TQ.finC2 ?_
      | refine TQ.finC3 ?_
      | refine ⟨fun hc => ?_, fun hc => ?_⟩
      | refine Ei.f ?_
      | refine ⟨?_, ?_⟩
      | intro b
      | exact absurd rfl hc
      | exact absurd hc (by decide)
      | omega
      | (dsimp only; omega)
      | fail)
instance {L R R1 R2 : List Assn} {n p r1 q1 m1 : Nat} {bz l1 l2 : Int} {r2 q2 m2 at_ nx ls a : Nat} {x z : Int} {zz : Nat} {br w : Bool} {X : XC} {tk : List Bool} {bs : List UInt8} {lt : List Bool} {M : List (Nat × Nat)} {R3 : List Assn} [h1 : RowDel L n 81 [.pointer (some ⟨p, 0, none⟩), .int .i64 bz, .pointer (some ⟨r1, 0, none⟩), .pointer (some ⟨q1, 0, none⟩), .map (some m1), .int .i64 l1, .pointer (some ⟨r2, 0, none⟩), .pointer (some ⟨q2, 0, none⟩), .map (some m2), .int .i64 l2] R1] [h2 : RgAt R1 r1 p at_ X tk nx ls br R2] [h3 : MemAt R2 p bs lt R3] [h4 : Fam (mapJ u32W) R3 m1 (.u16, M) R] [hx : Nn x a] [hz : Nn z zz] : FnR Try.prog 35 [.pointer (some ⟨n, 2, none⟩), .int .u32 x, .int .i64 z, .bool w] L (fun kk => Vc (M = MX X ∧ RgOk at_ bs.length X tk nx ls ∧ a < 4294967296 ∧ zz < 4294967296) (∀ hd e bs' lt' X' tk' nx', AddP at_ bs lt [⟨a, zz, w⟩] X tk nx br hd e bs' lt' X' tk' nx' → kk (.int .i64 (e : Nat)) (row 81 n [.pointer (some ⟨p, 0, none⟩), .int .i64 bz, .pointer (some ⟨r1, 0, none⟩), .pointer (some ⟨q1, 0, none⟩), .map (some m1), .int .i64 l1, .pointer (some ⟨r2, 0, none⟩), .pointer (some ⟨q2, 0, none⟩), .map (some m2), .int .i64 l2] :: rgA r1 p at_ X' tk' nx' ls br :: memA p bs' lt' :: mapJ u32W m1 (.u16, MX X') :: R))) :=
  ⟨fun kk h => by
    obtain ⟨⟨rfl, h5, h6, h7⟩, h9⟩ := h
    rw [hx.h, hz.h]
    exact ⟨_, R, _, put2_spec n p r1 q1 m1 r2 q2 m2 at_ nx ls a zz bz l1 l2 br w X tk bs lt h5 h6 h7, .cons h1.h (.cons h2.h (.cons h3.h (.cons h4.h (.nil _)))), fun v L' hv => by obtain ⟨hd, e, bs', lt', X', tk', nx', f1, f2, f3⟩ := hv; rw [f2, f3]; exact h9 _ _ _ _ _ _ _ f1⟩⟩
instance {L R R1 R2 : List Assn} {n p r1 q1 m1 : Nat} {bz l1 l2 : Int} {r2 q2 m2 at_ nx ls a : Nat} {x z : Int} {zz : Nat} {br w : Bool} {X : XC} {tk : List Bool} {bs : List UInt8} {lt : List Bool} {M : List (Nat × Nat)} {R3 : List Assn} [h1 : RowDel L n 81 [.pointer (some ⟨p, 0, none⟩), .int .i64 bz, .pointer (some ⟨r1, 0, none⟩), .pointer (some ⟨q1, 0, none⟩), .map (some m1), .int .i64 l1, .pointer (some ⟨r2, 0, none⟩), .pointer (some ⟨q2, 0, none⟩), .map (some m2), .int .i64 l2] R1] [h2 : RgAt R1 r2 p at_ X tk nx ls br R2] [h3 : MemAt R2 p bs lt R3] [h4 : Fam (mapJ u32W) R3 m2 (.u16, M) R] [hx : Nn x a] [hz : Nn z zz] : FnR Try.prog 35 [.pointer (some ⟨n, 6, none⟩), .int .u32 x, .int .i64 z, .bool w] L (fun kk => Vc (M = MX X ∧ RgOk at_ bs.length X tk nx ls ∧ a < 4294967296 ∧ zz < 4294967296) (∀ hd e bs' lt' X' tk' nx', AddP at_ bs lt [⟨a, zz, w⟩] X tk nx br hd e bs' lt' X' tk' nx' → kk (.int .i64 (e : Nat)) (row 81 n [.pointer (some ⟨p, 0, none⟩), .int .i64 bz, .pointer (some ⟨r1, 0, none⟩), .pointer (some ⟨q1, 0, none⟩), .map (some m1), .int .i64 l1, .pointer (some ⟨r2, 0, none⟩), .pointer (some ⟨q2, 0, none⟩), .map (some m2), .int .i64 l2] :: rgA r2 p at_ X' tk' nx' ls br :: memA p bs' lt' :: mapJ u32W m2 (.u16, MX X') :: R))) :=
  ⟨fun kk h => by
    obtain ⟨⟨rfl, h5, h6, h7⟩, h9⟩ := h
    rw [hx.h, hz.h]
    exact ⟨_, R, _, put6_spec n p r1 q1 m1 r2 q2 m2 at_ nx ls a zz bz l1 l2 br w X tk bs lt h5 h6 h7, .cons h1.h (.cons h2.h (.cons h3.h (.cons h4.h (.nil _)))), fun v L' hv => by obtain ⟨hd, e, bs', lt', X', tk', nx', f1, f2, f3⟩ := hv; rw [f2, f3]; exact h9 _ _ _ _ _ _ _ f1⟩⟩
theorem chain_spec (r p at_ nx ls mp tc h : Nat) (br : Bool) (ta : Option Addr) (X : XC) (tk : List Bool) (ch : Ch) (hX : atJ X h = some ch) (hl : 0 < ch.l.length) (hl8 : ch.l.length ≤ 8) :
    Sat Try.prog 19 [.pointer (some ⟨r, 0, none⟩), .int .u16 (h : Nat)] [row 104 r [.pointer (some ⟨p, 0, none⟩), .int .u32 at_, .int .i64 (tk.length : Nat), .map (some mp), .slice ta tk.length tc, .int .u16 nx, .int .u16 ls, .bool br], mapJ chV mp (.u16, X), famC X] (fun u L' => ∃ a2 k2, u = .tuple #[.slice a2 ch.l.length k2, .int .i64 0] ∧ L' = [row 104 r [.pointer (some ⟨p, 0, none⟩), .int .u32 at_, .int .i64 (tk.length : Nat), .map (some mp), .slice ta tk.length tc, .int .u16 nx, .int .u16 ls, .bool br], mapJ chV mp (.u16, X), famC X, Pw.sl 54 (2 + 1) (.slice a2 ch.l.length k2) ch.l.length (ch.l.flatMap bufV)]) := by
  have hgo : True := trivial
  all_goals
    refine Sat.enter Try.func19 rfl Try.ntmps19 rfl (fun c R => ?_)
    try simp only [List.cons_append, List.nil_append]
    repeat' (first
      | (refine T.atR 6 ?_; clear hgo; refine T.ent (Ent.imp (famC_at (by repeat first | exact Del.head _ _ | apply Del.tail) hX)) ?_)
      | (refine finAt ?_; exact Fini.of ⟨_, _, rfl, rfl⟩ (by repeat first | exact Imp.refl _ | (apply Imp.pull; focus ((repeat first | exact Del.head _ _ | apply Del.tail); done)) | (refine Imp.pullC (by repeat first | exact Del.head _ _ | apply Del.tail) (by repeat first | exact Del.head _ _ | apply Del.tail) (by repeat first | exact Del.head _ _ | apply Del.tail) hX ?_) | apply Imp.drop))
      | refine And.intro (fun hc => ?_) (fun hc => ?_)
      | refine And.intro ?_ ?_
      | intro b
      | refine stp ?_
      | refine TQ.finC ?_
      | refine TQ.finC2 ?_
      | refine TQ.finC3 ?_
      | refine ⟨fun hc => ?_, fun hc => ?_⟩
      | refine Ei.f ?_
      | refine ⟨?_, ?_⟩
      | intro b
      | exact absurd rfl hc
      | exact absurd hc (by decide)
      | omega
      | (dsimp only; omega)
      | fail)
theorem chain_at {r p at_ nx ls h : Nat} {br : Bool} {X : XC} {tk : List Bool} {ch : Ch} (hX : atJ X h = some ch) (hl : 0 < ch.l.length) (hl8 : ch.l.length ≤ 8) : Sat Try.prog 19 [.pointer (some ⟨r, 0, none⟩), .int .u16 (h : Nat)] [rgA r p at_ X tk nx ls br] (fun u L' => ∃ a2 k2, u = .tuple #[.slice a2 ch.l.length k2, .int .i64 0] ∧ L' = [rgA r p at_ X tk nx ls br, Pw.sl 54 (2 + 1) (.slice a2 ch.l.length k2) ch.l.length (ch.l.flatMap bufV)]) := by
  refine Sat.openA1 ?_
  rintro ⟨mp, ta, tc⟩ -
  refine Sat.imp ?_ (((chain_spec r p at_ nx ls mp tc h br ta X tk ch hX hl hl8).frame (F := [Pw.sl 4 (0 + 1) (.slice ta tk.length tc) tk.length (tk.map Value.bool)])).post ?_)
  rotate_left
  · rintro u L' ⟨_, ⟨a2, k2, rfl, rfl⟩, rfl⟩
    refine ⟨_, Imp.shutA (R := [Pw.sl 54 (2 + 1) (.slice a2 ch.l.length k2) ch.l.length (ch.l.flatMap bufV)]) (mp, ta, tc) trivial ?_, a2, k2, rfl, rfl⟩
    simp only [List.cons_append, List.nil_append]
    repeat first | exact Imp.refl _ | (apply Imp.pull; focus ((repeat first | exact Del.head _ _ | apply Del.tail); done)) | apply Imp.drop
  · dsimp only
    simp only [List.cons_append, List.nil_append]
    repeat first | exact Imp.refl _ | (apply Imp.pull; focus ((repeat first | exact Del.head _ _ | apply Del.tail); done)) | apply Imp.drop
instance {L R : List Assn} {r p at_ nx ls h : Nat} {x : Int} {br : Bool} {X : XC} {tk : List Bool} [h1 : RgAt L r p at_ X tk nx ls br R] [hx : Nn x h] : FnR Try.prog 19 [.pointer (some ⟨r, 0, none⟩), .int .u16 x] L (fun kk => ∃ ch, (atJ X h = some ch ∧ 0 < ch.l.length ∧ ch.l.length ≤ 8) ∧ ∀ a2 k2, kk (.tuple #[.slice a2 ch.l.length k2, .int .i64 0]) (rgA r p at_ X tk nx ls br :: Pw.sl 54 (2 + 1) (.slice a2 ch.l.length k2) ch.l.length (ch.l.flatMap bufV) :: R)) :=
  ⟨fun kk hh => by
    obtain ⟨ch, h5, h6⟩ := hh
    exact ⟨_, R, _, by rw [hx.h]; exact chain_at h5.1 h5.2.1 h5.2.2, .cons h1.h (.nil _), fun v L' hv => by
      obtain ⟨a2, k2, f1, f2⟩ := hv
      rw [f1, f2]
      exact h6 a2 k2⟩⟩

end Go.Proofs.Ytimaecgdahmmdaa


namespace Go.Proofs.Ytimaecgdahmmdaa
open Go Pw
set_option maxRecDepth 20000
set_option maxHeartbeats 4000000
/-! The receiving ring (plain law). -/
structure Geo (A n P bz N : Nat) (LT : List Bool) : Prop where
  n0 : 0 < n
  n2 : n ≤ 256
  sz : sizeE (n : Nat) = partN n + 6 + 8 * n
  PA : A + sizeE (n : Nat) ≤ P
  PN : P + bz * n ≤ N
  N2 : N ≤ 1048576
  b0 : 0 < bz
  lt : LT.length = N
  us : ∀ k, A + partN n ≤ k → k < A + sizeE (n : Nat) → LT[k]? = some true
  bf : ∀ k, P ≤ k → k < P + bz * n → LT[k]? = some true
def RxC (P bz : Nat) (y : Nat × Ch) : Prop := y.2.d = [y.1] ∧ y.2.l = [⟨P + bz * y.1, bz, true⟩]
structure RxI (A n P bz N : Nat) (X : XC) (tk : List Bool) (nx ls : Nat) : Prop where
  ok : RgOk A N X tk nx ls
  tl : tk.length = n
  xl : X.length = n
  ea : ∀ y ∈ X, RxC P bz y
theorem nodup_le : ∀ (n : Nat) (l : List Nat), l.Nodup → (∀ x ∈ l, x < n) → l.length ≤ n
  | 0, l, _, h => by
    cases l with
    | nil => simp
    | cons a l => exact absurd (h a List.mem_cons_self) (Nat.not_lt_zero _)
  | n + 1, l, hn, h => by
    have h1 := nodup_le n (l.erase n) (hn.erase n) (fun x hx => by
      have h2 := (hn.mem_erase_iff).1 hx
      have := h x h2.2
      have := h2.1
      omega)
    rw [List.length_erase] at h1
    split at h1 <;> omega
theorem nodup_full {n : Nat} {l : List Nat} (hn : l.Nodup) (h : ∀ x ∈ l, x < n) (hl : l.length = n) {k : Nat} (hk : k < n) : k ∈ l := by
  refine Decidable.byContradiction fun hm => ?_
  have := nodup_le n (k :: l) (List.nodup_cons.2 ⟨hm, hn⟩) (fun x hx => by
    rcases List.mem_cons.1 hx with rfl | hx
    · exact hk
    · exact h x hx)
  simp at this; omega
theorem atJ_some {X : XC} {n : Nat} (h : n ∈ X.map (·.1)) : ∃ c, atJ X n = some c := by
  unfold atJ
  obtain ⟨y, hy, e⟩ := List.mem_map.1 h
  cases hf : X.find? (fun q => decide (q.1 = n)) with
  | none =>
    have := List.find?_eq_none.1 hf y hy
    simp [e] at this
  | some z => exact ⟨z.2, rfl⟩
theorem RxI.key {A n P bz N nx ls : Nat} {X : XC} {tk : List Bool} (i : RxI A n P bz N X tk nx ls) {y : Nat × Ch} (hy : y ∈ X) : y.1 < n := by
  have h1 := (i.ok.ch y hy).d
  rw [(i.ea y hy).1, i.tl] at h1
  exact h1 _ List.mem_cons_self
theorem RxI.full {A n P bz N nx ls : Nat} {X : XC} {tk : List Bool} (i : RxI A n P bz N X tk nx ls) {h : Nat} (hh : h < n) : ∃ c, atJ X h = some c ∧ c.d = [h] ∧ c.l = [⟨P + bz * h, bz, true⟩] := by
  obtain ⟨c, hc⟩ := atJ_some (nodup_full i.ok.keys (fun x hx => by
    obtain ⟨y, hy, rfl⟩ := List.mem_map.1 hx
    exact i.key hy) (by rw [List.length_map]; exact i.xl) hh)
  have := i.ea _ (atJ_mem hc)
  exact ⟨c, hc, this.1, this.2⟩
theorem RxI.dsl {A n P bz N nx ls : Nat} {X : XC} {tk : List Bool} (i : RxI A n P bz N X tk nx ls) : (dsX X).length = n := by
  rw [← i.xl]
  have h := i.ea
  clear i
  induction X with
  | nil => rfl
  | cons y X ih =>
    rw [dsX_cons, List.length_append, ih (fun z hz => h z (List.mem_cons_of_mem _ hz)), (h y List.mem_cons_self).1]
    simp; omega
theorem RxI.tk1 {A n P bz N nx ls : Nat} {X : XC} {tk : List Bool} (i : RxI A n P bz N X tk nx ls) {m : Nat} (hm : m < n) : gt tk m = true := by
  have h1 := i.ok.cnt
  have h2 := i.dsl
  have h3 : cntF tk tk.length = 0 := by have := i.tl; omega
  refine Decidable.byContradiction fun h4 => ?_
  have h5 : gt tk m = false := by simpa using h4
  have hmt : m < tk.length := by rw [i.tl]; exact hm
  have h6 := cntF_yes hmt h5
  have h7 : cntF tk (m + 1) ≤ cntF tk tk.length := by
    unfold cntF
    have : tk.take (m + 1) = (tk.take tk.length).take (m + 1) := by rw [List.take_take, Nat.min_eq_left (by omega)]
    rw [this]
    exact ((List.take_sublist _ _).filter _).length_le
  omega
theorem bk1 {lt : List Bool} {b : Bf} (hb : b.inn = true) : bkE lt [b] 1 = (turnE lt b.at_ b.len false 12).2 := by
  show bkS (bkE lt [b] 0) (gt [b] 0) = _
  unfold bkS
  have e : gt [b] 0 = b := rfl
  rw [e, if_pos hb]; rfl
theorem ld1 {lt : List Bool} {b : Bf} (hb : b.inn = true) : ldE lt [b] 1 = (turnE lt b.at_ b.len true 11).2 := by
  show ldS (ldE lt [b] 0) (gt [b] 0) = _
  unfold ldS
  have e : gt [b] 0 = b := rfl
  rw [e, if_pos hb]; rfl
theorem turn_off {lt : List Bool} {a l e : Nat} (h0 : 0 < l) (h : a + l ≤ lt.length) (h2 : ∀ k, a ≤ k → k < a + l → lt[k]? = some true) : turnE lt a l false e = (0, fillB lt a l false) := by
  unfold turnE
  rw [if_pos ⟨h0, h⟩, if_pos (by rw [Bool.not_false]; exact (allB_iff h).2 h2)]
theorem turn_on {lt : List Bool} {a l e : Nat} (h0 : 0 < l) (h : a + l ≤ lt.length) : turnE (fillB lt a l false) a l true e = (0, fillB (fillB lt a l false) a l true) := by
  have hl := fillB_len (x := false) h
  unfold turnE
  rw [if_pos ⟨h0, by rw [hl]; exact h⟩, if_pos]
  rw [Bool.not_true]
  refine (allB_iff (by rw [hl]; exact h)).2 fun k h1 h2 => ?_
  rw [fillB_get h k (by omega), if_pos ⟨h1, h2⟩]
theorem fill_back {lt : List Bool} {a l : Nat} (h : a + l ≤ lt.length) (h2 : ∀ k, a ≤ k → k < a + l → lt[k]? = some true) : fillB (fillB lt a l false) a l true = lt := by
  have hl := fillB_len (x := false) h
  apply List.ext_getElem?
  intro k
  by_cases hk : k < lt.length
  · rw [fillB_get (by rw [hl]; exact h) k (by rw [hl]; exact hk)]
    by_cases h3 : a ≤ k ∧ k < a + l
    · rw [if_pos h3, h2 k h3.1 h3.2]
    · rw [if_neg h3, fillB_get h k hk, if_neg h3]
  · rw [List.getElem?_eq_none (by rw [fillB_len (by rw [hl]; exact h), hl]; omega), List.getElem?_eq_none (by omega)]
theorem Geo.buf {A n P bz N : Nat} {LT : List Bool} (g : Geo A n P bz N LT) {h : Nat} (hh : h < n) : P ≤ P + bz * h ∧ P + bz * h + bz ≤ P + bz * n ∧ P + bz * h + bz ≤ N := by
  have h1 : bz * (h + 1) ≤ bz * n := Nat.mul_le_mul_left bz hh
  have := g.PN
  rw [Nat.mul_succ] at h1
  omega
/-- What a poll of the receiving ring that brings something does. -/
structure RxP (A n P bz N : Nat) (LT : List Bool) (bs : List UInt8) (X : XC) (tk : List Bool) (nx ls : Nat) (br : Bool) (hd sz e : Nat) (X' : XC) (tk' : List Bool) (ls' : Nat) (br' : Bool) (lt' : List Bool) : Prop where
  b0 : br = false
  b1 : br' = false
  e0 : e = 0
  ix : ixE bs A n ≠ ls
  h1 : hd = (numE bs (slotE A n ls) 4).1
  z1 : sz = (numE bs (slotE A n ls + 4) 4).1
  hn : hd < n
  sb : sz ≤ bz
  l1 : ls' = (ls + 1) % 65536
  t1 : lt' = fillB LT (P + bz * hd) bz false
  X1 : X' = Pw.delJ X hd
  k1 : tk' = tk.set hd false
  ok : RgOk A N X' tk' nx ls'
  at_ : (atJ (MX X) hd).getD 0 = P + bz * hd
theorem rx_poll {A n P bz N : Nat} {LT : List Bool} {bs : List UInt8} {X : XC} {tk : List Bool} {nx ls : Nat} {br : Bool} {hd sz e : Nat} {X' : XC} {tk' : List Bool} {ls' : Nat} {br' : Bool} {lt' : List Bool} (g : Geo A n P bz N LT) (i : RxI A n P bz N X tk nx ls) (h : PollP bs LT A X tk ls br hd sz true e X' tk' ls' br' lt') : RxP A n P bz N LT bs X tk nx ls br hd sz e X' tk' ls' br' lt' := by
  have hok := poll_ok h i.ok
  cases h with
  | done c h1 h2 h3 hat hrm =>
    have hm := atJ_mem hat
    have hc := i.ea _ hm
    have hk := i.key hm
    rw [i.tl] at *
    dsimp only at hc hk
    have hb := g.buf hk
    have hlen : P + bz * (numE bs (slotE A n ls) 4).1 + bz ≤ LT.length := by rw [g.lt]; exact hb.2.2
    have e1 : bkE LT c.l c.l.length = fillB LT (P + bz * (numE bs (slotE A n ls) 4).1) bz false := by
      rw [hc.2]
      exact (bk1 rfl).trans (by rw [turn_off g.b0 hlen (fun k h1 h2 => g.bf k (by omega) (by omega))])
    have e2 : clrE tk c.d c.d.length = tk.set (numE bs (slotE A n ls) 4).1 false := by rw [hc.1]; rfl
    have e3 : roomE c.l c.l.length = bz := by rw [hc.2]; show 0 + bz = bz; omega
    refine ⟨h1, rfl, rfl, h2, rfl, rfl, hk, by rw [e3] at hrm; exact hrm, rfl, e1, rfl, e2, hok, ?_⟩
    rw [MX_at, hat]
    show (gt c.l 0).at_ = _
    rw [hc.2]; rfl
/-- What Add makes of the buffer that came. -/
structure RxA (A n P bz N : Nat) (LT : List Bool) (bs bs' : List UInt8) (hd e : Nat) (lt' : List Bool) (X' : XC) (tk' : List Bool) (nx' ls : Nat) : Prop where
  e0 : e = 0
  t1 : lt' = LT
  rx : RxI A n P bz N X' tk' nx' ls
  len : bs'.length = bs.length
  keep : KeepP LT bs bs'
  out : ∀ k, (k < A ∨ A + partN n ≤ k) → bs'[k]? = bs[k]?
theorem AvP.out {A n nx hd nx' : Nat} {lt : List Bool} {bs bs' : List UInt8} (h : AvP A n nx hd nx' lt bs bs') (hn : 0 < n) : ∀ k, (k < A ∨ A + partN n ≤ k) → bs'[k]? = bs[k]? := by
  obtain ⟨b0, b1, h1, h2, h3⟩ := h
  intro k hk
  have hp : 16 * n + 6 + 2 * n ≤ partN n := by unfold partN; omega
  have hm := Nat.mod_lt nx hn
  have l1 := leB_len hd 2
  have l2 := leB_len nx' 2
  rw [h3, writeE_out _ _ _ _ _ _ _ (by omega), h2, writeE_out _ _ _ _ _ _ _ (by omega), h1.out k (by omega)]
theorem st1 {tk : List Bool} {hd : Nat} (h1 : hd < tk.length) (h2 : ∀ m, m < tk.length → m ≠ hd → gt tk m = true) (hc : 0 < cntF tk tk.length) : (stE tk 1).1 = [hd] := by
  have hst := st_ok 1 (tk := tk) hc
  have hdl := hst.dl
  have hmem := gt_mem (show 0 < (stE tk 1).1.length by omega)
  have h0 := hst.dd _ hmem
  have hx1 := hst.x1
  have e : gt (stE tk 1).1 0 = hd := Decidable.byContradiction fun hne => by
    have := h2 _ (by omega) hne
    rw [h0.2] at this; cases this
  match hl : (stE tk 1).1, hdl with
  | [a], _ => rw [hl] at e; exact congrArg (fun x => [x]) e
theorem delJ_len {X : XC} {n : Nat} {c : Ch} (h : atJ X n = some c) : (Pw.delJ X n).length + 1 = X.length := by
  obtain ⟨A, B, e1, e2, _⟩ := atJ_split h
  rw [e2, e1]; simp; omega
theorem delJ_sub {X : XC} {n : Nat} {c : Ch} (h : atJ X n = some c) {y : Nat × Ch} (hy : y ∈ Pw.delJ X n) : y ∈ X := by
  obtain ⟨A, B, e1, e2, _⟩ := atJ_split h
  rw [e2] at hy
  rw [e1, List.mem_append, List.mem_cons]
  rcases List.mem_append.1 hy with h | h
  · exact .inl h
  · exact .inr (.inr h)
theorem rx_add {A n P bz N : Nat} {LT : List Bool} {bs bs' : List UInt8} {X X2 : XC} {tk tk2 lt2 : List Bool} {nx ls hd hd2 e nx2 ls0 : Nat} (g : Geo A n P bz N LT) (i : RxI A n P bz N X tk nx ls0) (hb : bs.length = N) (hh : hd < n) (hok : RgOk A N (Pw.delJ X hd) (tk.set hd false) nx ls)
    (h : AddP A bs (fillB LT (P + bz * hd) bz false) [⟨P + bz * hd, bz, true⟩] (Pw.delJ X hd) (tk.set hd false) nx false hd2 e bs' lt2 X2 tk2 nx2) : RxA A n P bz N LT bs bs' hd2 e lt2 X2 tk2 nx2 ls := by
  have hbf := g.buf hh
  have hN2 := g.N2
  have hPA := g.PA
  have htl : (tk.set hd false).length = n := by rw [List.length_set]; exact i.tl
  have hlen : P + bz * hd + bz ≤ LT.length := by rw [g.lt]; exact hbf.2.2
  have hlt : ∀ k, P + bz * hd ≤ k → k < P + bz * hd + bz → LT[k]? = some true := fun k h1 h2 => g.bf k (by omega) (by omega)
  have hcnt : cntF (tk.set hd false) n = 1 := by
    have h1 := cntF_clr (l := tk) (z := hd) (by rw [i.tl]; exact hh) (i.tk1 hh) tk.length (Nat.le_refl _)
    rw [i.tl, if_pos hh] at h1
    have h2 := i.ok.cnt
    have h3 := i.dsl
    rw [i.tl] at h2
    omega
  have hbok : ∀ b ∈ [(⟨P + bz * hd, bz, true⟩ : Bf)], b.ok := fun b hb => by
    rw [List.mem_singleton] at hb; subst hb; exact ⟨by dsimp only; omega, by dsimp only; omega⟩
  have hlend : ∀ {e lt'}, LendP A (sizeE (n : Nat)) (fillB LT (P + bz * hd) bz false) [⟨P + bz * hd, bz, true⟩] e lt' → e = 0 ∧ lt' = LT := fun hl => by
    have h1 := hl.ok (fun j hj hin => by
      have hj0 : j = 0 := by simp at hj; omega
      subst hj0
      have e : gt [(⟨P + bz * hd, bz, true⟩ : Bf)] 0 = ⟨P + bz * hd, bz, true⟩ := rfl
      rw [e]
      dsimp only
      refine ⟨by omega, ?_⟩
      show (turnE (fillB LT (P + bz * hd) bz false) _ _ true 11).1 = 0
      rw [turn_on g.b0 hlen])
    refine ⟨h1.1, h1.2.trans ?_⟩
    show ldE _ [_] 1 = _
    rw [ld1 rfl]
    dsimp only
    rw [turn_on g.b0 hlen]
    exact fill_back hlen hlt
  have hok2 := add_ok hbok h (by rw [hb]; exact hok)
  have hlen2 := (add_len h)
  cases h with
  | dead h1 => cases h1
  | no _ _ h2 h3 =>
    have := h2.all (by simp) (by simp) (fun j hj => by
      have hj0 : j = 0 := by simp at hj; omega
      subst hj0
      exact ⟨g.b0, by show P + bz * hd + bz ≤ _; omega⟩) (fun j hj => by simp at hj)
    rw [htl, hcnt] at this
    simp at this
    exact absurd this h3
  | lent _ _ _ _ h2 h3 =>
    rw [htl] at h2
    exact absurd (hlend h2).1 h3
  | done _ _ da dk ba bk _ _ h2 h3 h4 =>
    rw [htl] at h2 h4 hlen2
    have e2 := (hlend h2).2
    subst e2
    have e1 : (stE (tk.set hd false) 1).1 = [hd] := st1 (by rw [htl]; exact hh) (fun m hm hne => by
      rw [htl] at hm
      rw [gt_set (by rw [i.tl]; exact hh), if_neg hne]
      exact i.tk1 hm) (by rw [htl, hcnt]; omega)
    obtain ⟨c, hc, _⟩ := i.full hh
    refine ⟨rfl, rfl, ⟨?_, hlen2.1, ?_, ?_⟩, hlen2.2, h3, h4.out g.n0⟩
    · have := hok2
      rw [hlen2.2, hb] at this
      exact this
    · rw [List.length_append]
      have := delJ_len hc
      have := i.xl
      simp; omega
    · intro y hy
      rcases List.mem_append.1 hy with hy | hy
      · exact i.ea y (delJ_sub hc hy)
      · rw [List.mem_singleton] at hy
        subst hy
        have e3 : gt (stE (tk.set hd false) 1).1 0 = hd := by rw [e1]; rfl
        show (stE (tk.set hd false) 1).1 = [gt (stE (tk.set hd false) 1).1 0] ∧ ([⟨P + bz * hd, bz, true⟩] : List Bf) = [⟨P + bz * gt (stE (tk.set hd false) 1).1 0, bz, true⟩]
        rw [e3]
        exact ⟨e1, rfl⟩

end Go.Proofs.Ytimaecgdahmmdaa


namespace Go.Proofs.Ytimaecgdahmmdaa
open Go Pw
set_option maxRecDepth 20000
set_option maxHeartbeats 4000000
set_option synthInstance.maxHeartbeats 400000
set_option synthInstance.maxSize 4000
set_option maxHeartbeats 8000000

section
variable {P : Program} {r : Rd} {c : Ctx} {L R : List Assn} {E : Env} {Q : Exit → Env → Rd → World → Prop} {l : Nat} {o : Loop} {B : List Assn → Prop} {body : Code}
theorem _root_.Pw.TO.yl2 {nt ds : Nat} {le : List (Nat × Value)} {gb : Nat → Value} {ops : Array Oper} {rest : List Oper} {fo x1 x2 : Operand} {ats : Array TypeId} {ty : TypeId} {pos : String} {af : Array Edge} {v1 v2 w1 w2 : Value} {A : List Assn}
    (hp : Pick (pt l (.loop o) :: A) L R) (hy : Yl P c l o [v1, v2] A B) (e1 : w1 = v1) (e2 : w2 = v2) (hn : 2 = o.params.size) (hs : o.state = .ready) (hpd : o.pending = none)
    (k : ∀ L1, B L1 → TO P r c (pt l (.loop o) :: (L1 ++ R)) ops Q rest ⟨nt, (ds, .bool true) :: le, gb⟩)
    (hf : Env.eval ⟨nt, le, gb⟩ fo = .func (.yield l) #[] #[] := by rfl) (ha : Env.eval ⟨nt, le, gb⟩ x1 = w1 := by conv => lhs; whnf) (hb : Env.eval ⟨nt, le, gb⟩ x2 = w2 := by conv => lhs; whnf) :
    TO P r c L ops Q (⟨some ds, .call ⟨.value fo, #[x1, x2], ats⟩, ty, pos, af, none⟩ :: rest) ⟨nt, le, gb⟩ := by
  subst e1
  subst e2
  refine TO.n (N.yield (B := B) (xs := [x1, x2]) (vs := [w1, w2]) hf ⟨ha, hb, trivial⟩ hy hp hn hs hpd) ?_
  rintro v L' ⟨rfl, L1, hB, rfl⟩
  exact k L1 hB
theorem _root_.Pw.Yl.of2 {n t1 t2 : Nat} {le : List (Nat × Value)} {ge : Nat → Value} {f : FuncId} {assign body : Code} {m : Nat} {v1 v2 : Value} {A : List Assn}
    (h : ∀ R, T P ⟨some l, []⟩ c (pt l (.loop (lrec f ⟨n, le, ge⟩ #[t1, t2] assign body m)) :: (A ++ R)) assign (Pw.thenR P c l (lrec f ⟨n, le, ge⟩ #[t1, t2] assign body m) body (endQ c l (lrec f ⟨n, le, ge⟩ #[t1, t2] assign body m) R B)) ⟨n, (t2, v2) :: (t1, v1) :: le, ge⟩) :
    Yl P c l (lrec f ⟨n, le, ge⟩ #[t1, t2] assign body m) [v1, v2] A B := fun R => ⟨⟨n, (t2, v2) :: (t1, v1) :: le, ge⟩, by
  have h1 := Env.act_put ⟨n, (t1, v1) :: le, ge⟩ (some t2) v2
  have h2 := congrArg Act.tmps h1
  have h3 := Env.act_put ⟨n, le, ge⟩ (some t1) v1
  refine h2.symm.trans ?_
  have h4 := congrArg Act.tmps h3
  have h5 : (⟨n, (t1, v1) :: le, ge⟩ : Env).act.tmps = (⟨n, le, ge⟩ : Env).act.tmps.setIfInBounds t1 v1 := h4.symm
  simp only [Act.put]
  rw [h5]
  simp [lrec], h R⟩
end
theorem not_t {b : Bool} (h : (!b) = true) : b = false := by cases b <;> simp_all
theorem poll_X {bs : List UInt8} {lt : List Bool} {at_ : Nat} {X : XC} {tk : List Bool} {ls : Nat} {br : Bool} {hd sz e : Nat} {X' : XC} {tk' : List Bool} {ls' : Nat} {br' : Bool} {lt' : List Bool} (h : PollP bs lt at_ X tk ls br hd sz false e X' tk' ls' br' lt') : X' = X := by cases h <;> rfl
theorem poll_hd {bs : List UInt8} {lt : List Bool} {at_ : Nat} {X : XC} {tk : List Bool} {ls : Nat} {br is : Bool} {hd sz e : Nat} {X' : XC} {tk' : List Bool} {ls' : Nat} {br' : Bool} {lt' : List Bool} (h : PollP bs lt at_ X tk ls br hd sz is e X' tk' ls' br' lt') : hd < 65536 ∧ sz < 4294967296 ∧ e ≤ 20 := by
  cases h with
  | dead => exact ⟨by decide, by decide, by decide⟩
  | none => exact ⟨by decide, by decide, by decide⟩
  | breaks => exact ⟨by decide, by decide, by decide⟩
  | done c h1 h2 h3 => exact ⟨h3, numE_lt bs _ 4, by decide⟩
theorem poll_D {bs : List UInt8} {lt : List Bool} {at_ : Nat} {X : XC} {tk : List Bool} {ls : Nat} {br : Bool} {hd sz e : Nat} {X' : XC} {tk' : List Bool} {ls' : Nat} {br' : Bool} {lt' : List Bool} (h : PollP bs lt at_ X tk ls br hd sz true e X' tk' ls' br' lt') : Pw.delJ X hd = X' := by cases h; rfl
theorem done2_spec {c : Ctx} {l : Nat} {o : Loop} {S : Type} (b1 b2 be n p r1 q1 m1 r2 q2 m2 at_ : Nat) (bz l2 : Int) (br : Bool) (X : S → XC) (tk : S → List Bool) (nx ls : S → Nat) (bs : S → List UInt8) (lt : S → List Bool) (lo : S → Int) (G : S → Assn) (I : S → Prop) (μ : S → Nat)
    (hok : ∀ s, I s → RgOk at_ (bs s).length (X s) (tk s) (nx s) (ls s)) (ho : o.params.size = 2) (h2 : o.state = .ready) (h3 : o.pending = none)
    (hy : ∀ s hd sz e X' tk' ls' br' lt', I s → PollP (bs s) (lt s) at_ (X s) (tk s) (ls s) br hd sz true e X' tk' ls' br' lt' → Yl Try.prog c l o [.int .u32 ((atJ (MX (X s)) hd).getD 0 : Nat), .int .i64 (sz : Nat)] [row 28 be [.int .i64 (e : Nat)], row 81 n [.pointer (some ⟨p, 0, none⟩), .int .i64 bz, .pointer (some ⟨r1, 0, none⟩), .pointer (some ⟨q1, 0, none⟩), .map (some m1), .int .i64 (lo s), .pointer (some ⟨r2, 0, none⟩), .pointer (some ⟨q2, 0, none⟩), .map (some m2), .int .i64 (l2)], rgA r1 p at_ X' tk' (nx s) ls' br', memA p (bs s) lt', mapJ u32W m1 (.u16, MX X'), G s] (fun L1 => ∃ s9, I s9 ∧ μ s9 < μ s ∧ br' = br ∧ L1 = [row 28 be [.int .i64 (e : Nat)], row 81 n [.pointer (some ⟨p, 0, none⟩), .int .i64 bz, .pointer (some ⟨r1, 0, none⟩), .pointer (some ⟨q1, 0, none⟩), .map (some m1), .int .i64 (lo s9), .pointer (some ⟨r2, 0, none⟩), .pointer (some ⟨q2, 0, none⟩), .map (some m2), .int .i64 (l2)], rgA r1 p at_ (X s9) (tk s9) (nx s9) (ls s9) br, memA p (bs s9) (lt s9), mapJ u32W m1 (.u16, MX (X s9)), G s9]))
    (s0 : S) (hI : I s0) :
    SatC Try.prog c 49 [.func (.yield l) #[] #[], .pointer (some ⟨b1, 0, none⟩), .pointer (some ⟨b2, 0, none⟩)] (pt l (.loop o) :: row 82 b1 [.pointer (some ⟨n, 2, none⟩)] :: row 95 b2 [.pointer (some ⟨be, 0, none⟩)] :: [row 28 be [.int .i64 (0 : Nat)], row 81 n [.pointer (some ⟨p, 0, none⟩), .int .i64 bz, .pointer (some ⟨r1, 0, none⟩), .pointer (some ⟨q1, 0, none⟩), .map (some m1), .int .i64 (lo s0), .pointer (some ⟨r2, 0, none⟩), .pointer (some ⟨q2, 0, none⟩), .map (some m2), .int .i64 (l2)], rgA r1 p at_ (X s0) (tk s0) (nx s0) (ls s0) br, memA p (bs s0) (lt s0), mapJ u32W m1 (.u16, MX (X s0)), G s0]) (fun _ L' => ∃ s hd sz e X' tk' ls' br' lt', I s ∧ PollP (bs s) (lt s) at_ (X s) (tk s) (ls s) br hd sz false e X' tk' ls' br' lt' ∧ L' = pt l (.loop o) :: row 82 b1 [.pointer (some ⟨n, 2, none⟩)] :: row 95 b2 [.pointer (some ⟨be, 0, none⟩)] :: [row 28 be [.int .i64 (e : Nat)], row 81 n [.pointer (some ⟨p, 0, none⟩), .int .i64 bz, .pointer (some ⟨r1, 0, none⟩), .pointer (some ⟨q1, 0, none⟩), .map (some m1), .int .i64 (lo s), .pointer (some ⟨r2, 0, none⟩), .pointer (some ⟨q2, 0, none⟩), .map (some m2), .int .i64 (l2)], rgA r1 p at_ X' tk' (nx s) ls' br', memA p (bs s) lt', mapJ u32W m1 (.u16, MX X'), G s]) := by
  have hg1 : True := trivial
  have hg3 : True := trivial
  have hg5 : True := trivial
  refine SatC.enter Try.func49 rfl Try.ntmps49 rfl (fun R => ?_)
  simp only [List.cons_append, List.nil_append]
  repeat' (first
    | (refine T.atB 0 ?_; refine T.lpa 0 [(0, _), (1, _), (2, _)] ((s0, 0) : S × Nat) (fun s => []) (fun s => [row 28 be [.int .i64 (s.2 : Nat)], row 81 n [.pointer (some ⟨p, 0, none⟩), .int .i64 bz, .pointer (some ⟨r1, 0, none⟩), .pointer (some ⟨q1, 0, none⟩), .map (some m1), .int .i64 (lo s.1), .pointer (some ⟨r2, 0, none⟩), .pointer (some ⟨q2, 0, none⟩), .map (some m2), .int .i64 (l2)], rgA r1 p at_ (X s.1) (tk s.1) (nx s.1) (ls s.1) br, memA p (bs s.1) (lt s.1), mapJ u32W m1 (.u16, MX (X s.1)), G s.1]) (fun s => I s.1) (fun s => μ s.1) hI ?_; rintro ⟨s, e0⟩ g hs; dsimp only at hs; have hk := hok s hs; simp only [List.cons_append, List.nil_append, appR])
    | (refine T.atR 1 ?_; clear hg1; rename_i hd sz is e X1 tk1 ls1 br1 lt1 hp; obtain ⟨hd6, hs6, he6⟩ := poll_hd hp)
    | (refine T.atR 3 ?_; clear hg3; have his := inn_of ‹(!is) = false›; subst his)
    | (refine T.atR 5 ?_; clear hg5; rw [MX_del]; have hX9 : X1 = Pw.delJ (X s) hd := (poll_D hp).symm; rw [← hX9])
    | (dsimp only; refine TO.yl2 (PickC.h) (hy s hd sz e X1 tk1 ls1 br1 lt1 hs hp) rfl rfl ho.symm h2 h3 ?_; rintro L1 ⟨s9, hI9, hm9, hb9, rfl⟩)
    | (refine TQ.atL ?_; refine TQ.rd ((s9, e) : S × Nat) rfl (by repeat first | exact trivial | refine ⟨rfl, ?_⟩) hI9 hm9 (Ent.imp (by repeat first | exact Imp.refl _ | (apply Imp.pull; focus ((repeat first | exact Del.head _ _ | apply Del.tail); done)) | apply Imp.drop)))
    | (refine finAt ?_; have his := not_t ‹(!is) = true›; subst his; have hX9 := poll_X hp; rw [← hX9]; exact Fini.of ⟨s, hd, sz, e, X1, tk1, ls1, br1, lt1, hs, hp, rfl⟩ (by repeat first | exact Imp.refl _ | (apply Imp.pull; focus ((repeat first | exact Del.head _ _ | apply Del.tail); done)) | apply Imp.drop))
    | refine T.pl 3 [] (.d 0 (.p 1 (.d 2 (.d 3 (.d 4 (.d 5 (.d 6 (.p 7 .fin)))))))) ?_
    | refine T.pl 4 [6] (.d 0 (.p 1 (.d 2 (.d 3 (.d 4 (.d 5 (.n 6 .fin))))))) ?_
    | refine And.intro (fun hc => ?_) (fun hc => ?_)
    | refine And.intro ?_ ?_
    | intro b
    | refine stp ?_
    | refine TQ.finC ?_
    | refine TQ.finC2 ?_
    | refine TQ.finC3 ?_
    | refine ⟨fun hc => ?_, fun hc => ?_⟩
    | refine Ei.f ?_
    | refine ⟨?_, ?_⟩
    | intro b
    | exact absurd rfl hc
    | exact absurd hc (by decide)
    | omega
    | (dsimp only; omega)
    | fail)
theorem done6_spec {c : Ctx} {l : Nat} {o : Loop} {S : Type} (b1 b2 be n p r1 q1 m1 r2 q2 m2 at_ : Nat) (bz l1 : Int) (br : Bool) (X : S → XC) (tk : S → List Bool) (nx ls : S → Nat) (bs : S → List UInt8) (lt : S → List Bool) (lo : S → Int) (G : S → Assn) (I : S → Prop) (μ : S → Nat)
    (hok : ∀ s, I s → RgOk at_ (bs s).length (X s) (tk s) (nx s) (ls s)) (ho : o.params.size = 2) (h2 : o.state = .ready) (h3 : o.pending = none)
    (hy : ∀ s hd sz e X' tk' ls' br' lt', I s → PollP (bs s) (lt s) at_ (X s) (tk s) (ls s) br hd sz true e X' tk' ls' br' lt' → Yl Try.prog c l o [.int .u32 ((atJ (MX (X s)) hd).getD 0 : Nat), .int .i64 (sz : Nat)] [row 28 be [.int .i64 (e : Nat)], row 81 n [.pointer (some ⟨p, 0, none⟩), .int .i64 bz, .pointer (some ⟨r1, 0, none⟩), .pointer (some ⟨q1, 0, none⟩), .map (some m1), .int .i64 (l1), .pointer (some ⟨r2, 0, none⟩), .pointer (some ⟨q2, 0, none⟩), .map (some m2), .int .i64 (lo s)], rgA r2 p at_ X' tk' (nx s) ls' br', memA p (bs s) lt', mapJ u32W m2 (.u16, MX X'), G s] (fun L1 => ∃ s9, I s9 ∧ μ s9 < μ s ∧ br' = br ∧ L1 = [row 28 be [.int .i64 (e : Nat)], row 81 n [.pointer (some ⟨p, 0, none⟩), .int .i64 bz, .pointer (some ⟨r1, 0, none⟩), .pointer (some ⟨q1, 0, none⟩), .map (some m1), .int .i64 (l1), .pointer (some ⟨r2, 0, none⟩), .pointer (some ⟨q2, 0, none⟩), .map (some m2), .int .i64 (lo s9)], rgA r2 p at_ (X s9) (tk s9) (nx s9) (ls s9) br, memA p (bs s9) (lt s9), mapJ u32W m2 (.u16, MX (X s9)), G s9]))
    (s0 : S) (hI : I s0) :
    SatC Try.prog c 49 [.func (.yield l) #[] #[], .pointer (some ⟨b1, 0, none⟩), .pointer (some ⟨b2, 0, none⟩)] (pt l (.loop o) :: row 82 b1 [.pointer (some ⟨n, 6, none⟩)] :: row 95 b2 [.pointer (some ⟨be, 0, none⟩)] :: [row 28 be [.int .i64 (0 : Nat)], row 81 n [.pointer (some ⟨p, 0, none⟩), .int .i64 bz, .pointer (some ⟨r1, 0, none⟩), .pointer (some ⟨q1, 0, none⟩), .map (some m1), .int .i64 (l1), .pointer (some ⟨r2, 0, none⟩), .pointer (some ⟨q2, 0, none⟩), .map (some m2), .int .i64 (lo s0)], rgA r2 p at_ (X s0) (tk s0) (nx s0) (ls s0) br, memA p (bs s0) (lt s0), mapJ u32W m2 (.u16, MX (X s0)), G s0]) (fun _ L' => ∃ s hd sz e X' tk' ls' br' lt', I s ∧ PollP (bs s) (lt s) at_ (X s) (tk s) (ls s) br hd sz false e X' tk' ls' br' lt' ∧ L' = pt l (.loop o) :: row 82 b1 [.pointer (some ⟨n, 6, none⟩)] :: row 95 b2 [.pointer (some ⟨be, 0, none⟩)] :: [row 28 be [.int .i64 (e : Nat)], row 81 n [.pointer (some ⟨p, 0, none⟩), .int .i64 bz, .pointer (some ⟨r1, 0, none⟩), .pointer (some ⟨q1, 0, none⟩), .map (some m1), .int .i64 (l1), .pointer (some ⟨r2, 0, none⟩), .pointer (some ⟨q2, 0, none⟩), .map (some m2), .int .i64 (lo s)], rgA r2 p at_ X' tk' (nx s) ls' br', memA p (bs s) lt', mapJ u32W m2 (.u16, MX X'), G s]) := by
  have hg1 : True := trivial
  have hg3 : True := trivial
  have hg5 : True := trivial
  refine SatC.enter Try.func49 rfl Try.ntmps49 rfl (fun R => ?_)
  simp only [List.cons_append, List.nil_append]
  repeat' (first
    | (refine T.atB 0 ?_; refine T.lpa 0 [(0, _), (1, _), (2, _)] ((s0, 0) : S × Nat) (fun s => []) (fun s => [row 28 be [.int .i64 (s.2 : Nat)], row 81 n [.pointer (some ⟨p, 0, none⟩), .int .i64 bz, .pointer (some ⟨r1, 0, none⟩), .pointer (some ⟨q1, 0, none⟩), .map (some m1), .int .i64 (l1), .pointer (some ⟨r2, 0, none⟩), .pointer (some ⟨q2, 0, none⟩), .map (some m2), .int .i64 (lo s.1)], rgA r2 p at_ (X s.1) (tk s.1) (nx s.1) (ls s.1) br, memA p (bs s.1) (lt s.1), mapJ u32W m2 (.u16, MX (X s.1)), G s.1]) (fun s => I s.1) (fun s => μ s.1) hI ?_; rintro ⟨s, e0⟩ g hs; dsimp only at hs; have hk := hok s hs; simp only [List.cons_append, List.nil_append, appR])
    | (refine T.atR 1 ?_; clear hg1; rename_i hd sz is e X1 tk1 ls1 br1 lt1 hp; obtain ⟨hd6, hs6, he6⟩ := poll_hd hp)
    | (refine T.atR 3 ?_; clear hg3; have his := inn_of ‹(!is) = false›; subst his)
    | (refine T.atR 5 ?_; clear hg5; rw [MX_del]; have hX9 : X1 = Pw.delJ (X s) hd := (poll_D hp).symm; rw [← hX9])
    | (dsimp only; refine TO.yl2 (PickC.h) (hy s hd sz e X1 tk1 ls1 br1 lt1 hs hp) rfl rfl ho.symm h2 h3 ?_; rintro L1 ⟨s9, hI9, hm9, hb9, rfl⟩)
    | (refine TQ.atL ?_; refine TQ.rd ((s9, e) : S × Nat) rfl (by repeat first | exact trivial | refine ⟨rfl, ?_⟩) hI9 hm9 (Ent.imp (by repeat first | exact Imp.refl _ | (apply Imp.pull; focus ((repeat first | exact Del.head _ _ | apply Del.tail); done)) | apply Imp.drop)))
    | (refine finAt ?_; have his := not_t ‹(!is) = true›; subst his; have hX9 := poll_X hp; rw [← hX9]; exact Fini.of ⟨s, hd, sz, e, X1, tk1, ls1, br1, lt1, hs, hp, rfl⟩ (by repeat first | exact Imp.refl _ | (apply Imp.pull; focus ((repeat first | exact Del.head _ _ | apply Del.tail); done)) | apply Imp.drop))
    | refine T.pl 3 [] (.d 0 (.p 1 (.d 2 (.d 3 (.d 4 (.d 5 (.d 6 (.p 7 .fin)))))))) ?_
    | refine T.pl 4 [6] (.d 0 (.p 1 (.d 2 (.d 3 (.d 4 (.d 5 (.n 6 .fin))))))) ?_
    | refine And.intro (fun hc => ?_) (fun hc => ?_)
    | refine And.intro ?_ ?_
    | intro b
    | refine stp ?_
    | refine TQ.finC ?_
    | refine TQ.finC2 ?_
    | refine TQ.finC3 ?_
    | refine ⟨fun hc => ?_, fun hc => ?_⟩
    | refine Ei.f ?_
    | refine ⟨?_, ?_⟩
    | intro b
    | exact absurd rfl hc
    | exact absurd hc (by decide)
    | omega
    | (dsimp only; omega)
    | fail)

end Go.Proofs.Ytimaecgdahmmdaa


namespace Go.Proofs.Ytimaecgdahmmdaa
open Go Pw
set_option maxRecDepth 20000
set_option maxHeartbeats 4000000
/-! What Recv tells (plain law). -/
def entE (bs : List UInt8) (A n l : Nat) : Nat × Nat := ((numE bs (slotE A n l) 4).1, (numE bs (slotE A n l + 4) 4).1)
def frO (bs : List UInt8) (P bz : Nat) (q : Nat × Nat) : List UInt8 × Bool := frmE (readE bs (P + bz * q.1) (q.2 : Nat)).1
def frsE (bs : List UInt8) (A n P bz ls : Nat) : Nat → List (List UInt8)
  | 0 => []
  | k + 1 => frsE bs A n P bz ls k ++ (if (frO bs P bz (entE bs A n ((ls + k) % 65536))).2 then [(frO bs P bz (entE bs A n ((ls + k) % 65536))).1] else [])
def losE (bs : List UInt8) (A n P bz ls : Nat) : Nat → Nat
  | 0 => 0
  | k + 1 => losE bs A n P bz ls k + (if (frO bs P bz (entE bs A n ((ls + k) % 65536))).2 then 0 else 1)
def dstE (bs : List UInt8) (A n ls : Nat) : Nat := (ixE bs A n + (65536 - ls)) % 65536
structure RvI (A n P bz N : Nat) (LT : List Bool) (bs0 : List UInt8) (ls0 : Nat) (lo0 : Nat) (X : XC) (tk : List Bool) (nx ls : Nat) (bs : List UInt8) (lo : Nat) (fr : List (List UInt8)) (k : Nat) : Prop where
  rx : RxI A n P bz N X tk nx ls
  bl : bs.length = N
  l0 : ls0 < 65536
  kp : KeepP LT bs0 bs
  out : ∀ j, (j < A ∨ A + partN n ≤ j) → bs[j]? = bs0[j]?
  ls : ls = (ls0 + k) % 65536
  kd : k ≤ dstE bs0 A n ls0
  fr : fr = frsE bs0 A n P bz ls0 k
  lo : lo = lo0 + losE bs0 A n P bz ls0 k
  sb : ∀ j, j < k → (entE bs0 A n ((ls0 + j) % 65536)).2 ≤ bz
theorem slotE_le {A n P bz N : Nat} {LT : List Bool} (g : Geo A n P bz N LT) (l : Nat) : A + partN n ≤ slotE A n l ∧ slotE A n l + 8 ≤ A + sizeE (n : Nat) := by
  have := Nat.mod_lt l g.n0
  have := g.sz
  unfold slotE
  omega
theorem ix_keep {A n P bz N : Nat} {LT : List Bool} {bs0 bs : List UInt8} (g : Geo A n P bz N LT) (h : KeepP LT bs0 bs) : ixE bs A n = ixE bs0 A n := by
  have := g.sz
  unfold ixE
  rw [numE_keep h (fun i hi => g.us _ (by omega) (by omega))]
theorem ent_keep {A n P bz N : Nat} {LT : List Bool} {bs0 bs : List UInt8} (g : Geo A n P bz N LT) (h : KeepP LT bs0 bs) (l : Nat) : entE bs A n l = entE bs0 A n l := by
  have := slotE_le g l
  unfold entE
  rw [numE_keep h (fun i hi => g.us _ (by omega) (by omega)), numE_keep h (fun i hi => g.us _ (by omega) (by omega))]
theorem readE_nat {bs : List UInt8} {a n : Nat} (h : a + n ≤ bs.length) : readE bs a (n : Nat) = ((bs.drop a).take n, 0) := by
  unfold readE
  rw [if_neg (by omega), Int.toNat_natCast, if_pos h]
theorem readE_len (bs : List UInt8) (a n : Nat) : (readE bs a (n : Nat)).1.length ≤ n := by
  unfold readE
  split
  · simp
  · split
    · rw [Int.toNat_natCast, List.length_take]; omega
    · simp
theorem take_eq {a b : List UInt8} {x n : Nat} (h : ∀ i, i < n → a[x + i]? = b[x + i]?) : (a.drop x).take n = (b.drop x).take n := by
  apply List.ext_getElem?
  intro i
  rw [List.getElem?_take, List.getElem?_take]
  split
  · rw [List.getElem?_drop, List.getElem?_drop]; exact h i (by assumption)
  · rfl
theorem fr_keep {A n P bz N : Nat} {LT : List Bool} {bs0 bs : List UInt8} (g : Geo A n P bz N LT) (h : KeepP LT bs0 bs) (hb : bs.length = N) {q : Nat × Nat} (h1 : q.1 < n) (h2 : q.2 ≤ bz) : frO bs P bz q = frO bs0 P bz q := by
  have h3 := g.buf h1
  have h4 := h.len
  unfold frO
  rw [readE_nat (by omega), readE_nat (by omega), take_eq fun i hi => h.keep _ (g.bf _ (by omega) (by omega))]
theorem rv_step {A n P bz N : Nat} {LT : List Bool} {bs0 : List UInt8} {ls0 : Nat} {lo0 : Nat} {X : XC} {tk : List Bool} {nx ls : Nat} {bs : List UInt8} {lo : Nat} {fr : List (List UInt8)} {k : Nat} {br : Bool} {hd sz e : Nat} {X' : XC} {tk' : List Bool} {ls' : Nat} {br' : Bool} {lt' : List Bool} {hd2 e2 nx2 : Nat} {bs2 : List UInt8} {X2 : XC} {tk2 lt2 : List Bool}
    (g : Geo A n P bz N LT) (i : RvI A n P bz N LT bs0 ls0 lo0 X tk nx ls bs lo fr k) (h : PollP bs LT A X tk ls br hd sz true e X' tk' ls' br' lt')
    (ha : AddP A bs lt' [⟨P + bz * hd, bz, true⟩] X' tk' nx br' hd2 e2 bs2 lt2 X2 tk2 nx2) :
    (e2 = 0 ∧ lt2 = LT ∧ k < dstE bs0 A n ls0) ∧ ((frmE (readE bs (P + bz * hd) (sz : Nat)).1).2 = true → RvI A n P bz N LT bs0 ls0 lo0 X2 tk2 nx2 ls' bs2 lo (fr ++ [(frmE (readE bs (P + bz * hd) (sz : Nat)).1).1]) (k + 1)) ∧ ((frmE (readE bs (P + bz * hd) (sz : Nat)).1).2 = false → RvI A n P bz N LT bs0 ls0 lo0 X2 tk2 nx2 ls' bs2 (lo + 1) fr (k + 1)) := by
  have q := rx_poll g i.rx h
  have hix := q.ix
  rw [ix_keep g i.kp] at hix
  have hil : ixE bs0 A n < 65536 := numE_lt bs0 _ 2
  have hl0 := i.l0
  have hls := i.ls
  have hkd := i.kd
  have hk : k < dstE bs0 A n ls0 := by
    refine Nat.lt_of_le_of_ne hkd fun e => ?_
    unfold dstE at e
    omega
  have hdl : dstE bs0 A n ls0 < 65536 := Nat.mod_lt _ (by omega)
  have ha2 := ha
  rw [q.t1, q.X1, q.k1, q.b1] at ha2
  have hok := q.ok
  rw [q.X1, q.k1] at hok
  have r := rx_add g i.rx i.bl q.hn hok ha2
  have hen : (hd, sz) = entE bs0 A n ((ls0 + k) % 65536) := by
    rw [← hls, ← ent_keep g i.kp]
    unfold entE
    rw [← q.h1, ← q.z1]
  have hfr : frmE (readE bs (P + bz * hd) (sz : Nat)).1 = frO bs0 P bz (entE bs0 A n ((ls0 + k) % 65536)) := by
    rw [← hen]
    exact fr_keep (q := (hd, sz)) g i.kp i.bl q.hn q.sb
  have base : ∀ lo' fr', fr' = frsE bs0 A n P bz ls0 (k + 1) → lo' = lo0 + losE bs0 A n P bz ls0 (k + 1) → RvI A n P bz N LT bs0 ls0 lo0 X2 tk2 nx2 ls' bs2 lo' fr' (k + 1) := fun lo' fr' h1 h2 =>
    ⟨r.rx, r.len.trans i.bl, hl0, i.kp.trans r.keep, fun j hj => (r.out j hj).trans (i.out j hj), by rw [q.l1]; omega, hk, h1, h2, fun j hj => by
      rcases Nat.lt_or_ge j k with h3 | h3
      · exact i.sb j h3
      · have : j = k := by omega
        rw [this, ← hen]; exact q.sb⟩
  refine ⟨⟨r.e0, r.t1, hk⟩, fun hf => base _ _ ?_ ?_, fun hf => base _ _ ?_ ?_⟩
  · rw [hfr] at hf ⊢
    show _ = frsE bs0 A n P bz ls0 k ++ _
    rw [if_pos hf, ← i.fr]
  · rw [hfr] at hf
    show _ = lo0 + (losE bs0 A n P bz ls0 k + _)
    rw [if_pos hf, Nat.add_zero]; exact i.lo
  · rw [hfr] at hf
    show _ = frsE bs0 A n P bz ls0 k ++ _
    rw [if_neg (by rw [hf]; exact Bool.false_ne_true), List.append_nil]; exact i.fr
  · rw [hfr] at hf
    show _ = lo0 + (losE bs0 A n P bz ls0 k + _)
    rw [if_neg (by rw [hf]; exact Bool.false_ne_true), i.lo]; omega
/-- What Recv leaves. -/
structure RecvP (A n P bz N : Nat) (LT : List Bool) (bs0 : List UInt8) (ls0 : Nat) (br0 : Bool) (lo0 : Nat) (k e : Nat) (X : XC) (tk : List Bool) (nx ls : Nat) (br : Bool) (bs : List UInt8) (lo : Nat) (fr : List (List UInt8)) : Prop where
  rv : RvI A n P bz N LT bs0 ls0 lo0 X tk nx ls bs lo fr k
  fin : (e = 20 ∧ br = true) ∨ (e = 0 ∧ br = false ∧ k = dstE bs0 A n ls0)
  good : br0 = false → dstE bs0 A n ls0 ≤ n → (∀ j, j < dstE bs0 A n ls0 → (entE bs0 A n ((ls0 + j) % 65536)).1 < n ∧ (entE bs0 A n ((ls0 + j) % 65536)).2 ≤ bz) → e = 0
theorem recv_end {A n P bz N : Nat} {LT : List Bool} {bs0 : List UInt8} {ls0 : Nat} {lo0 : Nat} {X : XC} {tk : List Bool} {nx ls : Nat} {bs : List UInt8} {lo : Nat} {fr : List (List UInt8)} {k : Nat} {br : Bool} {hd sz e : Nat} {X' : XC} {tk' : List Bool} {ls' : Nat} {br' : Bool} {lt' : List Bool}
    (g : Geo A n P bz N LT) (i : RvI A n P bz N LT bs0 ls0 lo0 X tk nx ls bs lo fr k) (h : PollP bs LT A X tk ls br hd sz false e X' tk' ls' br' lt') :
    lt' = LT ∧ RecvP A n P bz N LT bs0 ls0 br lo0 k e X' tk' nx ls' br' bs lo fr := by
  have hil : ixE bs0 A n < 65536 := numE_lt bs0 _ 2
  have hl0 := i.l0
  have hls := i.ls
  have hkd := i.kd
  cases h with
  | dead h1 => exact ⟨rfl, i, .inl ⟨rfl, rfl⟩, fun h => by rw [h] at h1; cases h1⟩
  | none h1 h2 =>
    rw [i.rx.tl, ix_keep g i.kp] at h2
    refine ⟨rfl, i, .inr ⟨rfl, rfl, ?_⟩, fun _ _ _ => rfl⟩
    unfold dstE at *
    omega
  | breaks h1 h2 h3 =>
    refine ⟨rfl, i, .inl ⟨rfl, rfl⟩, fun _ hd2 hg => ?_⟩
    exfalso
    have hsl : entE bs A n ls = entE bs0 A n ls := ent_keep g i.kp ls
    rw [i.rx.tl, i.rx.xl] at h3
    rw [i.rx.tl] at h2
    rw [ix_keep g i.kp] at h2 h3
    have hk : k < dstE bs0 A n ls0 := by
      refine Nat.lt_of_le_of_ne hkd fun e => ?_
      unfold dstE at e
      omega
    have hgk := hg k hk
    rw [← hls, ← hsl] at hgk
    unfold entE at hgk
    dsimp only at hgk
    have hn2 := g.n2
    have hm : (numE bs (slotE A n ls) 4).1 % 65536 = (numE bs (slotE A n ls) 4).1 := Nat.mod_eq_of_lt (by omega)
    rw [hm] at h3
    obtain ⟨c, hc, _, hcl⟩ := i.rx.full hgk.1
    rcases h3 with h3 | h3 | h3 | ⟨c', hc', h3⟩
    · unfold dstE at *
      omega
    · rw [hc] at h3; cases h3
    · omega
    · rw [hc] at hc'
      cases hc'
      rw [hcl] at h3
      have : roomE [(⟨P + bz * (numE bs (slotE A n ls) 4).1, bz, true⟩ : Bf)] [(⟨P + bz * (numE bs (slotE A n ls) 4).1, bz, true⟩ : Bf)].length = bz := by
        show 0 + bz = bz; omega
      rw [this] at h3
      omega
theorem losE_le (bs : List UInt8) (A n P bz ls : Nat) : ∀ k, losE bs A n P bz ls k ≤ k
  | 0 => Nat.le_refl _
  | k + 1 => by
    have := losE_le bs A n P bz ls k
    show losE bs A n P bz ls k + _ ≤ _
    split <;> omega
theorem frsE_le (bs : List UInt8) (A n P bz ls : Nat) : ∀ k, (frsE bs A n P bz ls k).length ≤ k
  | 0 => Nat.le_refl _
  | k + 1 => by
    have := frsE_le bs A n P bz ls k
    show (frsE bs A n P bz ls k ++ _).length ≤ _
    rw [List.length_append]
    split <;> simp <;> omega
theorem RvI.start {A n P bz N : Nat} {LT : List Bool} {X : XC} {tk : List Bool} {nx ls : Nat} {bs : List UInt8} {lo : Nat} (i : RxI A n P bz N X tk nx ls) (hb : bs.length = N) : RvI A n P bz N LT bs ls lo X tk nx ls bs lo [] 0 :=
  ⟨i, hb, i.ok.ls, .rfl, fun _ _ => rfl, by have := i.ok.ls; omega, Nat.zero_le _, rfl, rfl, fun j hj => absurd hj (Nat.not_lt_zero _)⟩
theorem frs_len {bs : List UInt8} {A n P bz ls : Nat} : ∀ k, (∀ j, j < k → (entE bs A n ((ls + j) % 65536)).2 ≤ bz) → ∀ f ∈ frsE bs A n P bz ls k, 14 ≤ f.length ∧ f.length ≤ bz - 12
  | 0, _, f, hf => absurd hf List.not_mem_nil
  | k + 1, h, f, hf => by
    rcases List.mem_append.1 hf with hf | hf
    · exact frs_len k (fun j hj => h j (by omega)) f hf
    · split at hf
      · rename_i h1
        rw [List.mem_singleton] at hf
        subst hf
        have h2 := frm_len h1
        have h3 := readE_len bs (P + bz * (entE bs A n ((ls + k) % 65536)).1) (entE bs A n ((ls + k) % 65536)).2
        have h4 := h k (by omega)
        unfold frO
        omega
      · exact absurd hf List.not_mem_nil

end Go.Proofs.Ytimaecgdahmmdaa


namespace Go.Proofs.Ytimaecgdahmmdaa
open Go Pw
set_option maxRecDepth 20000
set_option maxHeartbeats 4000000
set_option synthInstance.maxHeartbeats 400000
set_option synthInstance.maxSize 4000
set_option maxHeartbeats 8000000

/-- Several things, as one. -/
def stA (Ls : List Assn) : Assn := fun f => SLh Ls f
theorem imp_stA {Ls L R : List Assn} (h : Del (stA Ls) L R) : Imp L (Ls ++ R) := (Imp.pull h (Imp.refl R)).trans (Imp.flat fun _ => Iff.rfl)
theorem Imp.stA {Ls L R : List Assn} (h : Imp L (Ls ++ R)) : Imp L (stA Ls :: R) := h.trans (Imp.shut fun _ => Iff.rfl)
instance {x : List UInt8} : Inv str (str x) x True := ⟨fun _ => rfl⟩
section
variable {P : Program} {c : Ctx} {L R : List Assn} {E : Env} {B : Value → List Assn → Prop}
theorem TQ.finCC {fn : Func} {t1 t2 b1 b2 : Nat} {ty1 ty2 e1 e2 : TypeId} {u1 u2 : Value} [hp1 : Pl P ty1] [hp2 : Pl P ty2] [hr1 : RowAt L b1 e1 [u1]] [hr2 : RowAt L b2 e2 [u2]]
    (h : Fini c L R B (asResult [u1, u2])) (hr : fn.results = #[.cell t1 ty1, .cell t2 ty2] := by rfl) (h1 : E.get t1 = .pointer (some ⟨b1, 0, none⟩) := by rfl) (h2 : E.get t2 = .pointer (some ⟨b2, 0, none⟩) := by rfl) : TQ R0 c L (retQ P fn c R B) .ret E := by
  unfold Fini at h
  obtain ⟨L', h3, h4⟩ := h
  exact TQ.ret (vs := [u1, u2]) hr ⟨RV.at h1 hp1.h hr1.h rfl, RV.at h2 hp2.h hr2.h rfl, rfl⟩ h3 h4
theorem TQ.finMC {fn : Func} {m t1 t2 b1 b2 : Nat} {ty1 ty2 e1 e2 : TypeId} {u1 u2 : Value} {L0 : List Assn} (hd : Del (pt m (.deferred (some []))) L L0) [hp1 : Pl P ty1] [hp2 : Pl P ty2] [hr1 : RowAt L0 b1 e1 [u1]] [hr2 : RowAt L0 b2 e2 [u2]]
    (h : Fini c L0 R B (asResult [u1, u2])) (hr : fn.results = #[.cell t1 ty1, .cell t2 ty2] := by rfl) (h1 : E.get t1 = .pointer (some ⟨b1, 0, none⟩) := by rfl) (h2 : E.get t2 = .pointer (some ⟨b2, 0, none⟩) := by rfl) : TQ ⟨none, [m]⟩ c L (retQ P fn c R B) .ret E := by
  unfold Fini at h
  obtain ⟨L', h3, h4⟩ := h
  exact TQ.retM (L0 := L0) (vs := [u1, u2]) (Ent.perm hd.perm) hr ⟨RV.at h1 hp1.h hr1.h rfl, RV.at h2 hp2.h hr2.h rfl, rfl⟩ h3 h4
end
theorem TQ.atE {r : Rd} {c : Ctx} {L R : List Assn} {l : Nat} {o : Loop} {B : List Assn → Prop} {E : Env} (h : TQ r c L (endQ c l o R B) .normal E) : TQ r c L (endQ c l o R B) .normal E := h
structure RvS where
  (X : XC) (tk : List Bool) (nx ls : Nat) (bs : List UInt8) (lo : Nat) (fr : List (List UInt8)) (sa : Option Addr) (sk k : Nat)
theorem donef_spec (n o e : Nat) :
    Sat Try.prog 36 [.pointer (some ⟨n, o, none⟩), .pointer (some ⟨e, 0, none⟩)] [] (fun u L' => ∃ b1 b2, u = .func (.func 49) #[] #[.pointer (some ⟨b1, 0, none⟩), .pointer (some ⟨b2, 0, none⟩)] ∧ L' = [row 82 b1 [.pointer (some ⟨n, o, none⟩)], row 95 b2 [.pointer (some ⟨e, 0, none⟩)]]) := by
  all_goals
    refine Sat.enter Try.func36 rfl Try.ntmps36 rfl (fun c R => ?_)
    try simp only [List.cons_append, List.nil_append]
    repeat' (first
      | (refine finAt ?_; exact Fini.of ⟨_, _, rfl, rfl⟩ (by repeat first | exact Imp.refl _ | (apply Imp.pull; focus ((repeat first | exact Del.head _ _ | apply Del.tail); done)) | apply Imp.drop))
      | refine And.intro (fun hc => ?_) (fun hc => ?_)
      | refine And.intro ?_ ?_
      | intro b
      | refine stp ?_
      | refine TQ.finC ?_
      | refine TQ.finC2 ?_
      | refine TQ.finC3 ?_
      | refine ⟨fun hc => ?_, fun hc => ?_⟩
      | refine Ei.f ?_
      | refine ⟨?_, ?_⟩
      | intro b
      | exact absurd rfl hc
      | exact absurd hc (by decide)
      | omega
      | (dsimp only; omega)
      | fail)
instance {L : List Assn} {n o e : Nat} : FnR Try.prog 36 [.pointer (some ⟨n, o, none⟩), .pointer (some ⟨e, 0, none⟩)] L (fun kk => ∀ b1 b2, kk (.func (.func 49) #[] #[.pointer (some ⟨b1, 0, none⟩), .pointer (some ⟨b2, 0, none⟩)]) (row 82 b1 [.pointer (some ⟨n, o, none⟩)] :: row 95 b2 [.pointer (some ⟨e, 0, none⟩)] :: L)) :=
  ⟨fun kk h => ⟨[], L, _, donef_spec n o e, .nil _, fun v L' hv => by obtain ⟨b1, b2, f1, f2⟩ := hv; rw [f1, f2]; exact h b1 b2⟩⟩
theorem recv_spec (n p r1 q1 m1 r2 q2 m2 A nn P bz N nx ls l1 : Nat) (l2 : Int) (br : Bool) (X : XC) (tk : List Bool) (bs : List UInt8) (LT : List Bool) (g : Geo A nn P bz N LT) (i : RxI A nn P bz N X tk nx ls) (hb : bs.length = N) (hl : l1 ≤ 1125899906842624) :
    Sat Try.prog 14 [.pointer (some ⟨n, 0, none⟩)] [row 81 n [.pointer (some ⟨p, 0, none⟩), .int .i64 (bz : Nat), .pointer (some ⟨r1, 0, none⟩), .pointer (some ⟨q1, 0, none⟩), .map (some m1), .int .i64 ((l1 : Nat)), .pointer (some ⟨r2, 0, none⟩), .pointer (some ⟨q2, 0, none⟩), .map (some m2), .int .i64 (l2)], rgA r1 p A X tk nx ls br, memA p bs LT, mapJ u32W m1 (.u16, MX X)] (fun u L' => ∃ k e X' tk' nx' ls' br' bs' lo' fr' a9 k9, RecvP A nn P bz N LT bs ls br l1 k e X' tk' nx' ls' br' bs' lo' fr' ∧ u = .tuple #[.slice a9 fr'.length k9, .int .i64 (e : Nat)] ∧ L' = [row 81 n [.pointer (some ⟨p, 0, none⟩), .int .i64 (bz : Nat), .pointer (some ⟨r1, 0, none⟩), .pointer (some ⟨q1, 0, none⟩), .map (some m1), .int .i64 ((lo' : Nat)), .pointer (some ⟨r2, 0, none⟩), .pointer (some ⟨q2, 0, none⟩), .map (some m2), .int .i64 (l2)], rgA r1 p A X' tk' nx' ls' br', memA p bs' LT, mapJ u32W m1 (.u16, MX X'), Pw.sl 9 (0 + 1) (.slice a9 fr'.length k9) fr'.length (fr'.map str)]) := by
  have hgr : True := trivial
  have hg6 : True := trivial
  have hg12 : True := trivial
  all_goals
    refine Sat.enter Try.func14 rfl Try.ntmps14 rfl (fun c R => ?_)
    try simp only [List.cons_append, List.nil_append]
    repeat' (first
      | (refine T.atG ?_; clear hgr; rename_i c1 c2 c3 c4; obtain ⟨c5, hc5⟩ : ∃ x, x = b := ⟨_, rfl⟩; subst hc5; refine T.ent (Ent.imp (show Imp _ ((row 82 c4 [.pointer (some ⟨n, 2, none⟩)] :: row 95 c5 [.pointer (some ⟨c3, 0, none⟩)] :: [row 28 c3 [.int .i64 ((0 : Nat) : Int)], row 81 n [.pointer (some ⟨p, 0, none⟩), .int .i64 (bz : Nat), .pointer (some ⟨r1, 0, none⟩), .pointer (some ⟨q1, 0, none⟩), .map (some m1), .int .i64 (((⟨X, tk, nx, ls, bs, l1, [], none, 0, 0⟩ : RvS).lo : Nat)), .pointer (some ⟨r2, 0, none⟩), .pointer (some ⟨q2, 0, none⟩), .map (some m2), .int .i64 (l2)], rgA r1 p A (⟨X, tk, nx, ls, bs, l1, [], none, 0, 0⟩ : RvS).X (⟨X, tk, nx, ls, bs, l1, [], none, 0, 0⟩ : RvS).tk (⟨X, tk, nx, ls, bs, l1, [], none, 0, 0⟩ : RvS).nx (⟨X, tk, nx, ls, bs, l1, [], none, 0, 0⟩ : RvS).ls br, memA p (⟨X, tk, nx, ls, bs, l1, [], none, 0, 0⟩ : RvS).bs LT, mapJ u32W m1 (.u16, MX (⟨X, tk, nx, ls, bs, l1, [], none, 0, 0⟩ : RvS).X), stA [row 32 c1 [.pointer (some ⟨n, 0, none⟩)], row 22 c2 [.slice (⟨X, tk, nx, ls, bs, l1, [], none, 0, 0⟩ : RvS).sa (⟨X, tk, nx, ls, bs, l1, [], none, 0, 0⟩ : RvS).fr.length (⟨X, tk, nx, ls, bs, l1, [], none, 0, 0⟩ : RvS).sk], Pw.sl 9 (0 + 1) (.slice (⟨X, tk, nx, ls, bs, l1, [], none, 0, 0⟩ : RvS).sa (⟨X, tk, nx, ls, bs, l1, [], none, 0, 0⟩ : RvS).fr.length (⟨X, tk, nx, ls, bs, l1, [], none, 0, 0⟩ : RvS).sk) (⟨X, tk, nx, ls, bs, l1, [], none, 0, 0⟩ : RvS).fr.length ((⟨X, tk, nx, ls, bs, l1, [], none, 0, 0⟩ : RvS).fr.map str)]]) ++ R) from (by repeat first | exact Imp.refl _ | (apply Imp.pull; focus ((repeat first | exact Del.head _ _ | apply Del.tail); done)) | (refine Imp.stA ?_; simp only [List.cons_append, List.nil_append]) | (refine Imp.slN ?_) | apply Imp.drop))) ?_; refine T.rng (A := row 82 c4 [.pointer (some ⟨n, 2, none⟩)] :: row 95 c5 [.pointer (some ⟨c3, 0, none⟩)] :: [row 28 c3 [.int .i64 ((0 : Nat) : Int)], row 81 n [.pointer (some ⟨p, 0, none⟩), .int .i64 (bz : Nat), .pointer (some ⟨r1, 0, none⟩), .pointer (some ⟨q1, 0, none⟩), .map (some m1), .int .i64 (((⟨X, tk, nx, ls, bs, l1, [], none, 0, 0⟩ : RvS).lo : Nat)), .pointer (some ⟨r2, 0, none⟩), .pointer (some ⟨q2, 0, none⟩), .map (some m2), .int .i64 (l2)], rgA r1 p A (⟨X, tk, nx, ls, bs, l1, [], none, 0, 0⟩ : RvS).X (⟨X, tk, nx, ls, bs, l1, [], none, 0, 0⟩ : RvS).tk (⟨X, tk, nx, ls, bs, l1, [], none, 0, 0⟩ : RvS).nx (⟨X, tk, nx, ls, bs, l1, [], none, 0, 0⟩ : RvS).ls br, memA p (⟨X, tk, nx, ls, bs, l1, [], none, 0, 0⟩ : RvS).bs LT, mapJ u32W m1 (.u16, MX (⟨X, tk, nx, ls, bs, l1, [], none, 0, 0⟩ : RvS).X), stA [row 32 c1 [.pointer (some ⟨n, 0, none⟩)], row 22 c2 [.slice (⟨X, tk, nx, ls, bs, l1, [], none, 0, 0⟩ : RvS).sa (⟨X, tk, nx, ls, bs, l1, [], none, 0, 0⟩ : RvS).fr.length (⟨X, tk, nx, ls, bs, l1, [], none, 0, 0⟩ : RvS).sk], Pw.sl 9 (0 + 1) (.slice (⟨X, tk, nx, ls, bs, l1, [], none, 0, 0⟩ : RvS).sa (⟨X, tk, nx, ls, bs, l1, [], none, 0, 0⟩ : RvS).fr.length (⟨X, tk, nx, ls, bs, l1, [], none, 0, 0⟩ : RvS).sk) (⟨X, tk, nx, ls, bs, l1, [], none, 0, 0⟩ : RvS).fr.length ((⟨X, tk, nx, ls, bs, l1, [], none, 0, 0⟩ : RvS).fr.map str)]]) (first := []) (cap := [.pointer (some ⟨c4, 0, none⟩), .pointer (some ⟨c5, 0, none⟩)]) rfl Try.call49 (Pick.app _ _) (fun L1 => ∃ (s : RvS) (hd sz e : Nat) (X' : XC) (tk' : List Bool) (ls' : Nat) (br' : Bool) (lt' : List Bool), RvI A nn P bz N LT bs ls l1 s.X s.tk s.nx s.ls s.bs s.lo s.fr s.k ∧ PollP s.bs LT A s.X s.tk s.ls br hd sz false e X' tk' ls' br' lt' ∧ L1 = row 82 c4 [.pointer (some ⟨n, 2, none⟩)] :: row 95 c5 [.pointer (some ⟨c3, 0, none⟩)] :: [row 28 c3 [.int .i64 (e : Nat)], row 81 n [.pointer (some ⟨p, 0, none⟩), .int .i64 (bz : Nat), .pointer (some ⟨r1, 0, none⟩), .pointer (some ⟨q1, 0, none⟩), .map (some m1), .int .i64 ((s.lo : Nat)), .pointer (some ⟨r2, 0, none⟩), .pointer (some ⟨q2, 0, none⟩), .map (some m2), .int .i64 (l2)], rgA r1 p A X' tk' s.nx ls' br', memA p s.bs lt', mapJ u32W m1 (.u16, MX X'), stA [row 32 c1 [.pointer (some ⟨n, 0, none⟩)], row 22 c2 [.slice s.sa s.fr.length s.sk], Pw.sl 9 (0 + 1) (.slice s.sa s.fr.length s.sk) s.fr.length (s.fr.map str)]]) ?_ ?_)
      | (intro l m fn; refine SatC.post (done2_spec (S := RvS) c4 c5 c3 n p r1 q1 m1 r2 q2 m2 A bz l2 br (fun s => s.X) (fun s => s.tk) (fun s => s.nx) (fun s => s.ls) (fun s => s.bs) (fun _ => LT) (fun s => ((s.lo : Nat) : Int)) (fun s => stA [row 32 c1 [.pointer (some ⟨n, 0, none⟩)], row 22 c2 [.slice s.sa s.fr.length s.sk], Pw.sl 9 (0 + 1) (.slice s.sa s.fr.length s.sk) s.fr.length (s.fr.map str)]) (fun s => RvI A nn P bz N LT bs ls l1 s.X s.tk s.nx s.ls s.bs s.lo s.fr s.k) (fun s => dstE bs A nn ls - s.k) (fun s h => (by have h9 := h.rx.ok; rw [← h.bl] at h9; exact h9)) rfl rfl rfl (fun s hd sz e X' tk' ls' br' lt' hI hp => ?_) (⟨X, tk, nx, ls, bs, l1, [], none, 0, 0⟩ : RvS) (RvI.start i hb)) (fun v L' h => by obtain ⟨s, hd, sz, e, X', tk', ls', br', lt', hI, hp, rfl⟩ := h; exact ⟨_, ⟨s, hd, sz, e, X', tk', ls', br', lt', hI, hp, rfl⟩, rfl⟩); (try dsimp only); have q := rx_poll g hI.rx hp; have hbr := q.b0.trans q.b1.symm; subst hbr; rw [q.at_]; refine Yl.of2 (fun R => ?_); simp only [List.cons_append, List.nil_append])
      | (intro m L1 hL1; obtain ⟨s, hd, sz, e, X', tk', ls', br', lt', hI, hp, rfl⟩ := hL1; obtain ⟨hlt, hre⟩ := recv_end g hI hp; have hlt := hlt.symm; subst hlt; simp only [List.cons_append, List.nil_append])
      | (refine TQ.thenR ?_; generalize lrec _ _ _ _ _ _ = o9)
      | (refine T.atR 6 ?_; clear hg6; refine T.ent (Ent.imp (imp_stA (by repeat first | exact Del.head _ _ | apply Del.tail))) ?_; simp only [List.cons_append, List.nil_append]; have hok9 : RgOk A s.bs.length X' tk' s.nx ls' := (by rw [hI.bl]; exact q.ok); have hbf := g.buf q.hn; have hsb := q.sb; have hN2 := g.N2; have hfl := frsE_le bs A nn P bz ls s.k; have hll := losE_le bs A nn P bz ls s.k; have hkk := hI.kd; have hkl : dstE bs A nn ls < 65536 := Nat.mod_lt _ (by omega); have hrl := readE_len s.bs (P + bz * hd) sz; rw [← hI.fr] at hfl; have hlo := hI.lo)
      | (refine T.atR 12 ?_; clear hg12; refine T.ent (Ent.imp (imp_stA (by repeat first | exact Del.head _ _ | apply Del.tail))) ?_; simp only [List.cons_append, List.nil_append])
      | (refine TQ.atE ?_; have hf9 := ‹(frmE (readE s.bs (P + bz * hd) (sz : Nat)).1).2 = true›; rename_i a7 k7 hd2 e2 bs2 lt2 X2 tk2 nx2; obtain ⟨⟨he2, hlt2, hkd2⟩, hT, hF⟩ := rv_step g hI hp b; have hlt2 := hlt2.symm; subst hlt2; refine TQ.endR (L1 := [row 28 c3 [.int .i64 (e : Nat)], row 81 n [.pointer (some ⟨p, 0, none⟩), .int .i64 (bz : Nat), .pointer (some ⟨r1, 0, none⟩), .pointer (some ⟨q1, 0, none⟩), .map (some m1), .int .i64 (((⟨X2, tk2, nx2, ls', bs2, s.lo, s.fr ++ [(frmE (readE s.bs (P + bz * hd) (sz : Nat)).1).1], a7, k7, s.k + 1⟩ : RvS).lo : Nat)), .pointer (some ⟨r2, 0, none⟩), .pointer (some ⟨q2, 0, none⟩), .map (some m2), .int .i64 (l2)], rgA r1 p A (⟨X2, tk2, nx2, ls', bs2, s.lo, s.fr ++ [(frmE (readE s.bs (P + bz * hd) (sz : Nat)).1).1], a7, k7, s.k + 1⟩ : RvS).X (⟨X2, tk2, nx2, ls', bs2, s.lo, s.fr ++ [(frmE (readE s.bs (P + bz * hd) (sz : Nat)).1).1], a7, k7, s.k + 1⟩ : RvS).tk (⟨X2, tk2, nx2, ls', bs2, s.lo, s.fr ++ [(frmE (readE s.bs (P + bz * hd) (sz : Nat)).1).1], a7, k7, s.k + 1⟩ : RvS).nx (⟨X2, tk2, nx2, ls', bs2, s.lo, s.fr ++ [(frmE (readE s.bs (P + bz * hd) (sz : Nat)).1).1], a7, k7, s.k + 1⟩ : RvS).ls br, memA p (⟨X2, tk2, nx2, ls', bs2, s.lo, s.fr ++ [(frmE (readE s.bs (P + bz * hd) (sz : Nat)).1).1], a7, k7, s.k + 1⟩ : RvS).bs LT, mapJ u32W m1 (.u16, MX (⟨X2, tk2, nx2, ls', bs2, s.lo, s.fr ++ [(frmE (readE s.bs (P + bz * hd) (sz : Nat)).1).1], a7, k7, s.k + 1⟩ : RvS).X), stA [row 32 c1 [.pointer (some ⟨n, 0, none⟩)], row 22 c2 [.slice (⟨X2, tk2, nx2, ls', bs2, s.lo, s.fr ++ [(frmE (readE s.bs (P + bz * hd) (sz : Nat)).1).1], a7, k7, s.k + 1⟩ : RvS).sa (⟨X2, tk2, nx2, ls', bs2, s.lo, s.fr ++ [(frmE (readE s.bs (P + bz * hd) (sz : Nat)).1).1], a7, k7, s.k + 1⟩ : RvS).fr.length (⟨X2, tk2, nx2, ls', bs2, s.lo, s.fr ++ [(frmE (readE s.bs (P + bz * hd) (sz : Nat)).1).1], a7, k7, s.k + 1⟩ : RvS).sk], Pw.sl 9 (0 + 1) (.slice (⟨X2, tk2, nx2, ls', bs2, s.lo, s.fr ++ [(frmE (readE s.bs (P + bz * hd) (sz : Nat)).1).1], a7, k7, s.k + 1⟩ : RvS).sa (⟨X2, tk2, nx2, ls', bs2, s.lo, s.fr ++ [(frmE (readE s.bs (P + bz * hd) (sz : Nat)).1).1], a7, k7, s.k + 1⟩ : RvS).fr.length (⟨X2, tk2, nx2, ls', bs2, s.lo, s.fr ++ [(frmE (readE s.bs (P + bz * hd) (sz : Nat)).1).1], a7, k7, s.k + 1⟩ : RvS).sk) (⟨X2, tk2, nx2, ls', bs2, s.lo, s.fr ++ [(frmE (readE s.bs (P + bz * hd) (sz : Nat)).1).1], a7, k7, s.k + 1⟩ : RvS).fr.length ((⟨X2, tk2, nx2, ls', bs2, s.lo, s.fr ++ [(frmE (readE s.bs (P + bz * hd) (sz : Nat)).1).1], a7, k7, s.k + 1⟩ : RvS).fr.map str)]]) ⟨(⟨X2, tk2, nx2, ls', bs2, s.lo, s.fr ++ [(frmE (readE s.bs (P + bz * hd) (sz : Nat)).1).1], a7, k7, s.k + 1⟩ : RvS), hT hf9, (by dsimp only; omega), (by trivial), rfl⟩ (Ent.imp (by have hln : (s.fr ++ [(frmE (readE s.bs (P + bz * hd) (sz : Nat)).1).1]).length = s.fr.length + 1 := (by rw [List.length_append]; rfl); dsimp only; rw [hln]; repeat first | exact Imp.refl _ | (apply Imp.pull; focus ((repeat first | exact Del.head _ _ | apply Del.tail); done)) | (refine Imp.stA ?_; simp only [List.cons_append, List.nil_append]) | (refine Imp.slN ?_) | apply Imp.drop)))
      | (refine TQ.atE ?_; have hf9 := ‹(frmE (readE s.bs (P + bz * hd) (sz : Nat)).1).2 = false›; rename_i  hd2 e2 bs2 lt2 X2 tk2 nx2; obtain ⟨⟨he2, hlt2, hkd2⟩, hT, hF⟩ := rv_step g hI hp b; have hlt2 := hlt2.symm; subst hlt2; refine TQ.endR (L1 := [row 28 c3 [.int .i64 (e : Nat)], row 81 n [.pointer (some ⟨p, 0, none⟩), .int .i64 (bz : Nat), .pointer (some ⟨r1, 0, none⟩), .pointer (some ⟨q1, 0, none⟩), .map (some m1), .int .i64 (((⟨X2, tk2, nx2, ls', bs2, s.lo + 1, s.fr, s.sa, s.sk, s.k + 1⟩ : RvS).lo : Nat)), .pointer (some ⟨r2, 0, none⟩), .pointer (some ⟨q2, 0, none⟩), .map (some m2), .int .i64 (l2)], rgA r1 p A (⟨X2, tk2, nx2, ls', bs2, s.lo + 1, s.fr, s.sa, s.sk, s.k + 1⟩ : RvS).X (⟨X2, tk2, nx2, ls', bs2, s.lo + 1, s.fr, s.sa, s.sk, s.k + 1⟩ : RvS).tk (⟨X2, tk2, nx2, ls', bs2, s.lo + 1, s.fr, s.sa, s.sk, s.k + 1⟩ : RvS).nx (⟨X2, tk2, nx2, ls', bs2, s.lo + 1, s.fr, s.sa, s.sk, s.k + 1⟩ : RvS).ls br, memA p (⟨X2, tk2, nx2, ls', bs2, s.lo + 1, s.fr, s.sa, s.sk, s.k + 1⟩ : RvS).bs LT, mapJ u32W m1 (.u16, MX (⟨X2, tk2, nx2, ls', bs2, s.lo + 1, s.fr, s.sa, s.sk, s.k + 1⟩ : RvS).X), stA [row 32 c1 [.pointer (some ⟨n, 0, none⟩)], row 22 c2 [.slice (⟨X2, tk2, nx2, ls', bs2, s.lo + 1, s.fr, s.sa, s.sk, s.k + 1⟩ : RvS).sa (⟨X2, tk2, nx2, ls', bs2, s.lo + 1, s.fr, s.sa, s.sk, s.k + 1⟩ : RvS).fr.length (⟨X2, tk2, nx2, ls', bs2, s.lo + 1, s.fr, s.sa, s.sk, s.k + 1⟩ : RvS).sk], Pw.sl 9 (0 + 1) (.slice (⟨X2, tk2, nx2, ls', bs2, s.lo + 1, s.fr, s.sa, s.sk, s.k + 1⟩ : RvS).sa (⟨X2, tk2, nx2, ls', bs2, s.lo + 1, s.fr, s.sa, s.sk, s.k + 1⟩ : RvS).fr.length (⟨X2, tk2, nx2, ls', bs2, s.lo + 1, s.fr, s.sa, s.sk, s.k + 1⟩ : RvS).sk) (⟨X2, tk2, nx2, ls', bs2, s.lo + 1, s.fr, s.sa, s.sk, s.k + 1⟩ : RvS).fr.length ((⟨X2, tk2, nx2, ls', bs2, s.lo + 1, s.fr, s.sa, s.sk, s.k + 1⟩ : RvS).fr.map str)]]) ⟨(⟨X2, tk2, nx2, ls', bs2, s.lo + 1, s.fr, s.sa, s.sk, s.k + 1⟩ : RvS), hF hf9, (by dsimp only; omega), (by trivial), rfl⟩ (Ent.imp (by dsimp only; repeat first | exact Imp.refl _ | (apply Imp.pull; focus ((repeat first | exact Del.head _ _ | apply Del.tail); done)) | (refine Imp.stA ?_; simp only [List.cons_append, List.nil_append]) | (refine Imp.slN ?_) | apply Imp.drop)))
      | (refine TQ.atRet ?_; refine TQ.finMC (by repeat first | exact Del.head _ _ | apply Del.tail) ?_)
      | (refine finAt ?_; exact Fini.of ⟨s.k, e, X', tk', _, ls', br', _, _, _, _, _, hre, rfl, rfl⟩ (by repeat first | exact Imp.refl _ | (apply Imp.pull; focus ((repeat first | exact Del.head _ _ | apply Del.tail); done)) | apply Imp.drop))
      | (refine Vc.mk ⟨rfl, hok9, by omega, by omega⟩ ?_)
      | exact hrl
      | refine T.pl 11 [8] (.p 3 (.d 0 (.p 1 (.d 2 (.d 4 (.p 5 (.d 6 (.d 7 (.n 8 .fin))))))))) ?_
      | refine T.pl 12 [2, 3] (.d 0 (.b2 1 (.n 2 (.n 3 .fin)) 2 (.d 1 (.n 3 .fin)))) ?_
      | refine And.intro (fun hc => ?_) (fun hc => ?_)
      | refine And.intro ?_ ?_
      | intro b
      | refine stp ?_
      | refine TQ.finC ?_
      | refine TQ.finC2 ?_
      | refine TQ.finC3 ?_
      | refine ⟨fun hc => ?_, fun hc => ?_⟩
      | refine Ei.f ?_
      | refine ⟨?_, ?_⟩
      | intro b
      | exact absurd rfl hc
      | exact absurd hc (by decide)
      | omega
      | (dsimp only; omega)
      | fail)
theorem recv_nil  :
    Sat Try.prog 14 [.pointer none] [] (fun u L' => u = .tuple #[.slice none 0 0, .int .i64 1] ∧ L' = []) := by
  all_goals
    refine Sat.enter Try.func14 rfl Try.ntmps14 rfl (fun c R => ?_)
    try simp only [List.cons_append, List.nil_append]
    repeat' (first
      | refine TQ.finCC ?_
      | (exact Fini.of ⟨rfl, rfl⟩ (by repeat first | exact Imp.refl _ | (apply Imp.pull; focus ((repeat first | exact Del.head _ _ | apply Del.tail); done)) | apply Imp.drop))
      | refine T.pl 11 [8] (.p 3 (.d 0 (.p 1 (.d 2 (.d 4 (.p 5 (.d 6 (.d 7 (.n 8 .fin))))))))) ?_
      | refine T.pl 12 [2, 3] (.d 0 (.b2 1 (.n 2 (.n 3 .fin)) 2 (.d 1 (.n 3 .fin)))) ?_
      | refine And.intro (fun hc => ?_) (fun hc => ?_)
      | refine And.intro ?_ ?_
      | intro b
      | refine stp ?_
      | refine TQ.finC ?_
      | refine TQ.finC2 ?_
      | refine TQ.finC3 ?_
      | refine ⟨fun hc => ?_, fun hc => ?_⟩
      | refine Ei.f ?_
      | refine ⟨?_, ?_⟩
      | intro b
      | exact absurd rfl hc
      | exact absurd hc (by decide)
      | omega
      | (dsimp only; omega)
      | fail)
instance {L : List Assn} : FnR Try.prog 14 [.pointer none] L (fun kk => kk (.tuple #[.slice none 0 0, .int .i64 1]) L) := ⟨fun kk h => ⟨[], L, _, recv_nil, .nil _, fun v L' hv => by rw [hv.1, hv.2]; exact h⟩⟩
instance {L R R1 R2 R3 : List Assn} {n p bz r1 q1 m1 r2 q2 m2 A nx ls l1 : Nat} {l2 : Int} {br : Bool} {X : XC} {tk : List Bool} {bs : List UInt8} {LT : List Bool} {M : List (Nat × Nat)} [h1 : RowDel L n 81 [.pointer (some ⟨p, 0, none⟩), .int .i64 (bz : Nat), .pointer (some ⟨r1, 0, none⟩), .pointer (some ⟨q1, 0, none⟩), .map (some m1), .int .i64 ((l1 : Nat)), .pointer (some ⟨r2, 0, none⟩), .pointer (some ⟨q2, 0, none⟩), .map (some m2), .int .i64 (l2)] R1] [h2 : RgAt R1 r1 p A X tk nx ls br R2] [h3 : MemAt R2 p bs LT R3] [h4 : Fam (mapJ u32W) R3 m1 (.u16, M) R] : FnR Try.prog 14 [.pointer (some ⟨n, 0, none⟩)] L (fun kk => ∃ nn P N, (M = MX X ∧ Geo A nn P bz N LT ∧ RxI A nn P bz N X tk nx ls ∧ bs.length = N ∧ l1 ≤ 1125899906842624) ∧ ∀ k e X' tk' nx' ls' br' bs' lo' fr' a9 k9, RecvP A nn P bz N LT bs ls br l1 k e X' tk' nx' ls' br' bs' lo' fr' → kk (.tuple #[.slice a9 fr'.length k9, .int .i64 (e : Nat)]) (row 81 n [.pointer (some ⟨p, 0, none⟩), .int .i64 (bz : Nat), .pointer (some ⟨r1, 0, none⟩), .pointer (some ⟨q1, 0, none⟩), .map (some m1), .int .i64 ((lo' : Nat)), .pointer (some ⟨r2, 0, none⟩), .pointer (some ⟨q2, 0, none⟩), .map (some m2), .int .i64 (l2)] :: rgA r1 p A X' tk' nx' ls' br' :: memA p bs' LT :: mapJ u32W m1 (.u16, MX X') :: Pw.sl 9 (0 + 1) (.slice a9 fr'.length k9) fr'.length (fr'.map str) :: R)) :=
  ⟨fun kk h => by
    obtain ⟨nn, P, N, ⟨rfl, g1, g2, g3, g4⟩, h9⟩ := h
    exact ⟨_, R, _, recv_spec n p r1 q1 m1 r2 q2 m2 A nn P bz N nx ls l1 l2 br X tk bs LT g1 g2 g3 g4, .cons h1.h (.cons h2.h (.cons h3.h (.cons h4.h (.nil _)))), fun v L' hv => by obtain ⟨k, e, X', tk', nx', ls', br', bs', lo', fr', a9, k9, f1, f2, f3⟩ := hv; rw [f2, f3]; exact h9 _ _ _ _ _ _ _ _ _ _ _ _ f1⟩⟩

end Go.Proofs.Ytimaecgdahmmdaa

