/- Lemmas for the proofs of this seat: no statement of the seat is claimed here. -/
import Derived.Test.YtmhkmcoobpfkcaaKl
import Derived.Test.YtmhkmcoobpfkcaaKc
set_option linter.all false

namespace Go.Proofs.Ytmhkmcoobpfkcaa
open Go Pw
set_option maxRecDepth 20000
set_option maxHeartbeats 4000000
set_option synthInstance.maxHeartbeats 400000
set_option synthInstance.maxSize 4000
set_option maxHeartbeats 4000000

abbrev Ky := Nat × Nat × Nat × Nat
abbrev keyV (k : Ky) : Value := .agg #[.int .u32 k.1, .int .u32 k.2.1, .int .u8 k.2.2.1, .int .u16 k.2.2.2]
theorem sih67 : Try.prog.stoodInHeld 67 = false := by kernel_rfl
theorem pl5 : plainT Try.prog 5 = true := by kernel_rfl
theorem pl35 : plainT Try.prog 35 = true := by kernel_rfl
theorem pl36 : plainT Try.prog 36 = true := by kernel_rfl
theorem sz5 : Try.prog.cellsOf 5 = 0 + 1 := by kernel_rfl
theorem sz35 : Try.prog.cellsOf 35 = 0 + 1 := by kernel_rfl
theorem sz36 : Try.prog.cellsOf 36 = 0 + 1 := by kernel_rfl
theorem eqKey (a b : Ky) (w : World) : (Op.equalIn (9998 + 1 + 1) 67 (keyV a) (keyV b)).run Try.prog w = .ok (decide (a = b)) w := by
  obtain ⟨a1, a2, a3, a4⟩ := a
  obtain ⟨b1, b2, b3, b4⟩ := b
  refine (eqSt (n := 9998 + 1) (us := [.int .u32 a1, .int .u32 a2, .int .u8 a3, .int .u16 a4]) (vs := [.int .u32 b1, .int .u32 b2, .int .u8 b3, .int .u16 b4]) Try.underlying67 sih67 (.cons (by decide) rfl rfl pl35 sz35 (fun w => run_eqI _ _ _ Try.underlying35 w) (.cons (by decide) rfl rfl pl35 sz35 (fun w => run_eqI _ _ _ Try.underlying35 w) (.cons (by decide) rfl rfl pl5 sz5 (fun w => run_eqI _ _ _ Try.underlying5 w) (.cons (by decide) rfl rfl pl36 sz36 (fun w => run_eqI _ _ _ Try.underlying36 w) .nil)))) w).trans ?_
  congr 1
  rw [Bool.eq_iff_iff]
  simp only [List.all_cons, List.all_nil, id, Bool.and_eq_true, decide_eq_true_eq, Prod.mk.injEq, and_true]
  omega
instance : KeyT Try.prog 67 keyV where
  eq a b w := eqKey a b w
  now := ⟨_, Try.underlying67, fun _ _ => rfl⟩
  chk a e w := by
    obtain ⟨a1, a2, a3, a4⟩ := a
    unfold Instr.checkKey
    simp only [Sem.run_bind, run_underlying Try.underlying67, Result.andThen_ok]
    simp only [← Array.forIn_toList]
    have hk : ∀ (t : TypeId) (k : IntKind) (n : Int) (w : World), Try.prog.underlying t = some (.int k) → (Instr.checkKey e 9999 t (.int k n)).run Try.prog w = .ok () w := fun t k n w ht => MapKept.run_checkKey ht (by simp [MapKept.IsKey]) e 9998
    have q0 : ∀ w, (Go.part 35 #[Value.int .u32 a1, .int .u32 a2, .int .u8 a3, .int .u16 a4] 0).run Try.prog w = .ok (.int .u32 a1) w := fun w => run_part1 pl35 sz35 rfl w
    have q1 : ∀ w, (Go.part 35 #[Value.int .u32 a1, .int .u32 a2, .int .u8 a3, .int .u16 a4] 1).run Try.prog w = .ok (.int .u32 a2) w := fun w => run_part1 pl35 sz35 rfl w
    have q2 : ∀ w, (Go.part 5 #[Value.int .u32 a1, .int .u32 a2, .int .u8 a3, .int .u16 a4] 2).run Try.prog w = .ok (.int .u8 a3) w := fun w => run_part1 pl5 sz5 rfl w
    have q3 : ∀ w, (Go.part 36 #[Value.int .u32 a1, .int .u32 a2, .int .u8 a3, .int .u16 a4] 3).run Try.prog w = .ok (.int .u16 a4) w := fun w => run_part1 pl36 sz36 rfl w
    simp only [List.forIn_cons, List.forIn_nil, Sem.run_bind, ne_eq, String.reduceEq, not_false_eq_true, if_true, q0, q1, q2, q3, Result.andThen_ok, hk _ _ _ _ Try.underlying35, hk _ _ _ _ Try.underlying5, hk _ _ _ _ Try.underlying36, Sem.run_pure]
def keyE (p : Pkt) : Ky := (p.src, p.dst, p.proto, p.id)
instance {a b c d : Nat} : KInv keyV (.agg #[.int .u32 (a : Int), .int .u32 (b : Int), .int .u8 (c : Int), .int .u16 (d : Int)]) (a, b, c, d) := ⟨rfl⟩
def PSet.key (x : PSet) : Ky := keyE (gt x.l 0)
abbrev XS := List (Nat × PSet)
/-- The sets, each at its place. -/
def famA (X : XS) : Assn := fun f => SLh (X.map fun y => setA y.1 y.2) f
theorem famA_open {A B : XS} {s : Nat} {x : PSet} {R : List Assn} : Imp (famA (A ++ (s, x) :: B) :: R) (setA s x :: famA (A ++ B) :: R) := fun f hf => by
  have h1 := Imp.flat (X := famA (A ++ (s, x) :: B)) (R := R) (fun _ => Iff.rfl) f hf
  rw [List.map_append, List.map_cons] at h1
  have h2 : SLh (setA s x :: ((A ++ B).map fun y => setA y.1 y.2) ++ R) f := by
    refine h1.perm ?_
    rw [List.map_append, List.cons_append]
    exact (List.perm_middle (l₁ := A.map fun y => setA y.1 y.2) (l₂ := B.map fun y => setA y.1 y.2) (a := setA s x)).append_right R
  obtain ⟨f1, f2, hd, k1, k2, ha, hl⟩ := h2
  exact ⟨f1, f2, hd, k1, k2, ha, Imp.shut (X := famA (A ++ B)) (R := R) (fun _ => Iff.rfl) f2 hl⟩
theorem famA_shut {A B : XS} {s : Nat} {x : PSet} {R : List Assn} : Imp (setA s x :: famA (A ++ B) :: R) (famA (A ++ (s, x) :: B) :: R) := fun f hf => by
  obtain ⟨f1, f2, hd, k1, k2, ha, hl⟩ := hf
  have h1 := Imp.flat (X := famA (A ++ B)) (R := R) (fun _ => Iff.rfl) f2 hl
  refine Imp.shut (X := famA (A ++ (s, x) :: B)) (R := R) (fun _ => Iff.rfl) f ?_
  have h2 : SLh (setA s x :: (((A ++ B).map fun y => setA y.1 y.2) ++ R)) f := ⟨f1, f2, hd, k1, k2, ha, h1⟩
  refine h2.perm ?_
  rw [List.map_append, List.map_append, List.map_cons, ← List.cons_append]
  exact (List.perm_middle (l₁ := A.map fun y => setA y.1 y.2) (l₂ := B.map fun y => setA y.1 y.2) (a := setA s x)).symm.append_right R
theorem famA_sub {X : XS} {R : List Assn} : ∀ {Y : XS}, Y.Sublist X → Imp (famA X :: R) (famA Y :: R) := fun {Y} h f hf => by
  have h1 := Imp.flat (X := famA X) (R := R) (fun _ => Iff.rfl) f hf
  refine Imp.shut (X := famA Y) (R := R) (fun _ => Iff.rfl) f ?_
  clear hf
  induction h generalizing f with
  | slnil => exact h1
  | cons a _ ih => exact ih _ h1.tail
  | cons_cons a _ ih =>
    obtain ⟨f1, f2, hd, k1, k2, ha, hl⟩ := h1
    exact ⟨f1, f2, hd, k1, k2, ha, ih _ hl⟩
theorem famA_nil {L : List Assn} : Imp L (famA [] :: L) := fun f hf => ⟨fun _ => none, f, fun _ => .inl rfl, (fun _ _ (h : none = some _) => nomatch h), fun _ _ h => h, trivial, hf⟩
/-- How long a set at a place waits. -/
def tilOf (X : XS) (s : Nat) : Nat := ((X.find? fun y => decide (y.1 = s)).map (·.2.til)).getD 0
class FamX (L : List Assn) (X : outParam XS) (R : outParam (List Assn)) : Prop where h : Del (famA X) L R
instance (priority := 1100) {L : List Assn} {X : XS} : FamX (famA X :: L) X L := ⟨.head _ _⟩
instance {A : Assn} {L R : List Assn} {X : XS} [h : FamX L X R] : FamX (A :: L) X (A :: R) := ⟨.tail h.h⟩
theorem setA_til {s : Nat} {x : PSet} {f : Frag} (h : setA s x f) : ∃ a k fr, f s = some (.cells #[.slice a x.l.length k, .int .u64 x.til] 70 fr) := by
  obtain ⟨⟨a, k⟩, -, f1, f2, hd, k1, k2, ⟨fr, -, h1⟩, -⟩ := h
  exact ⟨a, k, fr, k1 _ _ h1⟩
theorem split_at {X : XS} {s : Nat} (h : s ∈ X.map (·.1)) : ∃ A x B, X = A ++ (s, x) :: B ∧ tilOf X s = x.til := by
  induction X with
  | nil => simp at h
  | cons y X ih =>
    obtain ⟨t, x⟩ := y
    by_cases hts : t = s
    · subst hts; exact ⟨[], x, X, rfl, by simp [tilOf]⟩
    · rw [List.map_cons, List.mem_cons] at h
      obtain ⟨A, x', B, e, ht⟩ := ih (h.resolve_left (fun e => hts e.symm))
      refine ⟨(t, x) :: A, x', B, by rw [e]; rfl, ?_⟩
      rw [← ht]; unfold tilOf; rw [List.find?_cons]; simp [hts]
instance {P : Program} {c : Ctx} {L R : List Assn} {t : TypeId} {s : Nat} {X : XS} [hp : Pl P t] [hr : FamX L X R] : Re P c L (.load t (.pointer (some ⟨s, 1, none⟩))) (fun q => Vc (s ∈ X.map (·.1)) (q (.int .u64 (tilOf X s : Nat)))) :=
  ⟨fun E d op ty pos af g hs q hq => by
    cases hs with | load e1 =>
    refine ⟨_, D.ld (A := famA X) e1 hp.h (Del.lmem hr.h) ?_, hq.r⟩
    intro f w hf hw
    obtain ⟨A, x, B, rfl, ht⟩ := split_at hq.l
    have h1 := famA_open (R := []) f ⟨f, fun _ => none, fun _ => .inr rfl, fun _ _ h => h, (fun _ _ (h : none = some _) => nomatch h), hf, trivial⟩
    obtain ⟨f1, _, _, k1, _, ha, _⟩ := h1
    obtain ⟨a, k, fr, h2⟩ := setA_til ha
    have h3 := hw s _ (k1 _ _ h2)
    rw [ht]
    simp [World.cell?, h3]⟩

end Go.Proofs.Ytmhkmcoobpfkcaa


namespace Go.Proofs.Ytmhkmcoobpfkcaa
open Go Pw
set_option maxRecDepth 20000
set_option maxHeartbeats 4000000
set_option synthInstance.maxHeartbeats 400000
set_option synthInstance.maxSize 4000
set_option maxHeartbeats 4000000

structure PSet.ok (x : PSet) : Prop where
  ne : 0 < x.l.length
  all : ∀ q ∈ x.l, q.ok
  dt : ∀ q ∈ x.l, q.data ≠ []
  en : ∀ q ∈ x.l, enE q ≤ 8192
  srt : x.l.Pairwise (fun a b => a.off < b.off)
  til : x.til < 9223372036854775808
  ky : ∀ q ∈ x.l, keyE q = x.key
  nw : wholeE x.l = none
structure SsOk (S : List PSet) : Prop where
  nd : (S.map PSet.key).Nodup
  all : ∀ x ∈ S, x.ok
def expE (S : List PSet) (now : Nat) : List PSet := S.filter fun x => decide (now < x.til)
def findS (S : List PSet) (k : Ky) : Option PSet := S.find? fun x => decide (x.key = k)
def delS (S : List PSet) (k : Ky) : List PSet := S.filter fun x => decide (x.key ≠ k)
def putS (S : List PSet) (k : Ky) (y : PSet) : List PSet := match findS S k with | some _ => S.map (fun x => if x.key = k then y else x) | none => S ++ [y]
abbrev Rs := Pkt × Bool × Nat
def finS (S : List PSet) (k : Ky) (x : PSet) (p : Pkt) : List PSet × Rs :=
  if (addE x p).2 ≠ 0 then (delS S k, zP, false, (addE x p).2) else match wholeE (addE x p).1.l with | some w => (delS S k, w, true, 0) | none => (putS S k (addE x p).1, zP, false, 0)
def takeE (most life : Nat) (S : List PSet) (p : Pkt) (now : Nat) : List PSet × Rs :=
  if 4611686018427387904 ≤ now then (S, zP, false, 2)
  else if p.more = false ∧ p.off = 0 then (expE S now, p, true, 0)
  else if mayE p ≠ 0 then (delS (expE S now) (keyE p), zP, false, mayE p)
  else match findS (expE S now) (keyE p) with
    | some x => finS (expE S now) (keyE p) x p
    | none => if most ≤ (expE S now).length then (expE S now, zP, false, 6) else finS (expE S now) (keyE p) ⟨[], now + life⟩ p
section
variable {most life now : Nat} {S : List PSet} {p : Pkt}
theorem tk_late (h : 4611686018427387904 ≤ now) : takeE most life S p now = (S, zP, false, 2) := if_pos h
theorem tk_own (h : ¬ 4611686018427387904 ≤ now) (h1 : p.more = false) (h2 : p.off = 0) : takeE most life S p now = (expE S now, p, true, 0) := by unfold takeE; rw [if_neg h, if_pos ⟨h1, h2⟩]
theorem tk_may (h : ¬ 4611686018427387904 ≤ now) (h1 : ¬ (p.more = false ∧ p.off = 0)) (h2 : mayE p ≠ 0) : takeE most life S p now = (delS (expE S now) (keyE p), zP, false, mayE p) := by unfold takeE; rw [if_neg h, if_neg h1, if_pos h2]
theorem tk_some {x : PSet} (h : ¬ 4611686018427387904 ≤ now) (h1 : ¬ (p.more = false ∧ p.off = 0)) (h2 : ¬ mayE p ≠ 0) (h3 : findS (expE S now) (keyE p) = some x) : takeE most life S p now = finS (expE S now) (keyE p) x p := by unfold takeE; rw [if_neg h, if_neg h1, if_neg h2, h3]
theorem tk_full (h : ¬ 4611686018427387904 ≤ now) (h1 : ¬ (p.more = false ∧ p.off = 0)) (h2 : ¬ mayE p ≠ 0) (h3 : findS (expE S now) (keyE p) = none) (h4 : most ≤ (expE S now).length) : takeE most life S p now = (expE S now, zP, false, 6) := by unfold takeE; rw [if_neg h, if_neg h1, if_neg h2, h3]; exact if_pos h4
theorem tk_new (h : ¬ 4611686018427387904 ≤ now) (h1 : ¬ (p.more = false ∧ p.off = 0)) (h2 : ¬ mayE p ≠ 0) (h3 : findS (expE S now) (keyE p) = none) (h4 : ¬ most ≤ (expE S now).length) : takeE most life S p now = finS (expE S now) (keyE p) ⟨[], now + life⟩ p := by unfold takeE; rw [if_neg h, if_neg h1, if_neg h2, h3]; exact if_neg h4
end
theorem fin_err {S : List PSet} {k : Ky} {x : PSet} {p : Pkt} (h : (addE x p).2 ≠ 0) : finS S k x p = (delS S k, zP, false, (addE x p).2) := if_pos h
theorem fin_yes {S : List PSet} {k : Ky} {x : PSet} {p w : Pkt} (h : ¬ (addE x p).2 ≠ 0) (h2 : wholeE (addE x p).1.l = some w) : finS S k x p = (delS S k, w, true, 0) := by unfold finS; rw [if_neg h, h2]
theorem fin_no {S : List PSet} {k : Ky} {x : PSet} {p : Pkt} (h : ¬ (addE x p).2 ≠ 0) (h2 : wholeE (addE x p).1.l = none) : finS S k x p = (putS S k (addE x p).1, zP, false, 0) := by unfold finS; rw [if_neg h, h2]
theorem SsOk.exp {S : List PSet} {now : Nat} (h : SsOk S) : SsOk (expE S now) := ⟨h.nd.sublist (List.filter_sublist.map _), fun x hx => h.all x (List.mem_filter.1 hx).1⟩
abbrev kpE (y : Nat × PSet) : Ky × Nat := (y.2.key, y.1)
theorem exp_map (X : XS) (now : Nat) : expE (X.map (·.2)) now = (X.filter fun y => decide (now < y.2.til)).map (·.2) := by unfold expE; rw [List.filter_map]; rfl
theorem del_map (X : XS) (k : Ky) : delS (X.map (·.2)) k = (X.filter fun y => decide (y.2.key ≠ k)).map (·.2) := by unfold delS; rw [List.filter_map]; rfl
theorem delG_map (X : XS) (k : Ky) : delG (X.map kpE) k = (X.filter fun y => decide (y.2.key ≠ k)).map kpE := by unfold delG; rw [List.filter_map]; rfl
theorem find_none {X : XS} {k : Ky} (h : atG (X.map kpE) k = none) : findS (X.map (·.2)) k = none := by
  unfold atG at h; unfold findS
  rw [Option.map_eq_none_iff, List.find?_eq_none] at h
  rw [List.find?_eq_none]
  intro x hx
  obtain ⟨y, hy, rfl⟩ := List.mem_map.1 hx
  exact h (kpE y) (List.mem_map_of_mem hy)
theorem key_not {X : XS} {k : Ky} (h : findS (X.map (·.2)) k = none) : k ∉ (X.map kpE).map (·.1) := by
  unfold findS at h
  rw [List.find?_eq_none] at h
  intro hk
  rw [List.map_map] at hk
  obtain ⟨y, hy, rfl⟩ := List.mem_map.1 hk
  exact h y.2 (List.mem_map_of_mem hy) (by simp [kpE])
theorem find_some {X : XS} {k : Ky} {s : Nat} (h : atG (X.map kpE) k = some s) : ∃ A x B, X = A ++ (s, x) :: B ∧ x.key = k ∧ findS (X.map (·.2)) k = some x := by
  induction X with
  | nil => cases h
  | cons y X ih =>
    obtain ⟨t, x⟩ := y
    unfold atG at h
    rw [List.map_cons, List.find?_cons] at h
    by_cases hk : x.key = k
    · simp only [hk, decide_true, if_true, Option.map_some, Option.some.injEq] at h
      subst h
      exact ⟨[], x, X, rfl, hk, by unfold findS; rw [List.map_cons, List.find?_cons]; simp [hk]⟩
    · simp only [hk, decide_false] at h
      obtain ⟨A, x', B, e, e2, e3⟩ := ih h
      refine ⟨(t, x) :: A, x', B, by rw [e]; rfl, e2, ?_⟩
      unfold findS; rw [List.map_cons, List.find?_cons]; simp only [hk, decide_false]; exact e3
/-! keys apart: what stands beside -/
theorem beside_ {A B : XS} {s : Nat} {x : PSet} {k : Ky} (hn : (((A ++ (s, x) :: B).map (·.2)).map PSet.key).Nodup) (hk : x.key = k) : ∀ y ∈ A ++ B, y.2.key ≠ k := by
  rw [List.map_map] at hn
  have hp : ((s, x) :: (A ++ B)).map (PSet.key ∘ (·.2)) |>.Nodup := (List.perm_middle.map _).nodup_iff.1 hn
  rw [List.map_cons, List.nodup_cons] at hp
  intro y hy he
  exact hp.1 (by show x.key ∈ _; rw [hk, ← he]; exact List.mem_map_of_mem (f := PSet.key ∘ (·.2)) hy)
theorem filt_beside {A B : XS} {y0 : Nat × PSet} {k : Ky} (h : ∀ y ∈ A ++ B, y.2.key ≠ k) (h0 : y0.2.key = k) : (A ++ y0 :: B).filter (fun y => decide (y.2.key ≠ k)) = A ++ B := by
  rw [List.filter_append, List.filter_cons]
  simp only [h0, ne_eq, not_true_eq_false, decide_false, Bool.false_eq_true, if_false]
  rw [List.filter_eq_self.2 (fun y hy => by simpa using h y (List.mem_append_left _ hy)), List.filter_eq_self.2 (fun y hy => by simpa using h y (List.mem_append_right _ hy))]
theorem delG_mid {A B : XS} {s : Nat} {k : Ky} (h : ∀ y ∈ A ++ B, y.2.key ≠ k) : delG (A.map kpE ++ (k, s) :: B.map kpE) k = (A ++ B).map kpE := by
  unfold delG
  rw [List.filter_append, List.filter_cons, List.map_append]
  simp only [ne_eq, not_true_eq_false, decide_false, Bool.false_eq_true, if_false]
  rw [List.filter_eq_self.2, List.filter_eq_self.2]
  · intro z hz
    obtain ⟨y, hy, rfl⟩ := List.mem_map.1 hz
    simpa using h y (List.mem_append_right _ hy)
  · intro z hz
    obtain ⟨y, hy, rfl⟩ := List.mem_map.1 hz
    simpa using h y (List.mem_append_left _ hy)
/-- The set in hand: one of those that are there, or a new one. -/
def inH (Y : XS) (most til : Nat) (k : Ky) (z : Nat × PSet × XS × XS) : Prop :=
  (findS (Y.map (·.2)) k = some z.2.1 ∧ z.2.1.key = k ∧ Y = z.2.2.1 ++ (z.1, z.2.1) :: z.2.2.2) ∨ (findS (Y.map (·.2)) k = none ∧ ¬ most ≤ Y.length ∧ z.2.1 = ⟨[], til⟩ ∧ Y = z.2.2.1 ∧ z.2.2.2 = [])
theorem inH.beside {Y : XS} {most til : Nat} {k : Ky} {z : Nat × PSet × XS × XS} (h : inH Y most til k z) (hn : SsOk (Y.map (·.2))) : ∀ y ∈ z.2.2.1 ++ z.2.2.2, y.2.key ≠ k := by
  obtain ⟨s, x, A, B⟩ := z
  rcases h with ⟨_, h2, h3⟩ | ⟨h1, _, _, h3, h4⟩
  · subst h3; exact beside_ hn.nd h2
  · dsimp only at *
    subst h3; subst h4
    rw [List.append_nil]
    intro y hy he
    have := key_not h1
    exact this (by rw [List.map_map]; exact List.mem_map.2 ⟨y, hy, he⟩)
theorem inH.del {Y : XS} {most til : Nat} {k : Ky} {z : Nat × PSet × XS × XS} (h : inH Y most til k z) (hn : SsOk (Y.map (·.2))) : delS (Y.map (·.2)) k = (z.2.2.1 ++ z.2.2.2).map (·.2) := by
  have hb := h.beside hn
  obtain ⟨s, x, A, B⟩ := z
  rw [del_map]
  rcases h with ⟨_, h2, h3⟩ | ⟨h1, _, _, h3, h4⟩
  · subst h3; dsimp only at *; rw [filt_beside hb h2]
  · dsimp only at *
    subst h3; subst h4
    rw [List.append_nil] at *
    rw [List.filter_eq_self.2 (fun y hy => by simpa using hb y hy)]
theorem map_if {A : XS} {k : Ky} {x' : PSet} (h : ∀ y ∈ A, y.2.key ≠ k) : (A.map (·.2)).map (fun x => if x.key = k then x' else x) = A.map (·.2) := by
  rw [List.map_map]
  exact List.map_congr_left fun y hy => if_neg (h y hy)
theorem inH.put {Y : XS} {most til : Nat} {k : Ky} {z : Nat × PSet × XS × XS} (h : inH Y most til k z) (hn : SsOk (Y.map (·.2))) (x' : PSet) : putS (Y.map (·.2)) k x' = (z.2.2.1 ++ (z.1, x') :: z.2.2.2).map (·.2) := by
  have hb := h.beside hn
  obtain ⟨s, x, A, B⟩ := z
  unfold putS
  rcases h with ⟨h1, h2, h3⟩ | ⟨h1, _, _, h3, h4⟩
  · dsimp only at *
    rw [h1]
    subst h3
    simp only [List.map_append, List.map_cons]
    rw [map_if (fun y hy => hb y (List.mem_append_left _ hy)), map_if (fun y hy => hb y (List.mem_append_right _ hy)), if_pos h2]
  · dsimp only at *
    rw [h1]
    subst h3; subst h4
    simp

end Go.Proofs.Ytmhkmcoobpfkcaa


namespace Go.Proofs.Ytmhkmcoobpfkcaa
open Go Pw
set_option maxRecDepth 20000
set_option maxHeartbeats 4000000
set_option synthInstance.maxHeartbeats 400000
set_option synthInstance.maxSize 4000
set_option maxHeartbeats 8000000

instance {c : Ctx} {L : List Assn} : St Try.prog c L (.mkMap 63) (fun q => ∀ b, q (.map (some b)) (mapG keyV pv b [] :: L)) := St.mkMapG keyV pv
instance {c : Ctx} {L R : List Assn} {b : Nat} {l : List (Ky × Nat)} [hm : Fam (mapG keyV pv) L b l R] : Re Try.prog c L (.builtin .len [.map (some b)] [63]) (fun q => q (.int .i64 (l.length : Nat))) := Re.lenG keyV pv (kt := 67) (et := 68)
instance {c : Ctx} {L R : List Assn} {b : Nat} {l : List (Ky × Nat)} {v : Value} {k : Ky} [hm : Fam (mapG keyV pv) L b l R] [hn : KInv keyV v k] : Re Try.prog c L (.lookup 63 (.map (some b)) v false) (fun q => q (.pointer ((atG l k).map fun s => ⟨s, 0, none⟩))) :=
  ⟨fun E d op ty pos af g hs q hq => by
    obtain ⟨u, h1, h2⟩ := (Re.lkG (P := Try.prog) (c := c) (L := L) (t := 63) keyV pv (kt := 67) (et := 68) (v := v) (b := b)).go E d op ty pos af g hs q (by
      cases h : atG l k with
      | none => rw [h] at hq; exact .inl ⟨rfl, hq⟩
      | some s => rw [h] at hq; exact .inr ⟨s, rfl, hq⟩)
    exact ⟨u, h1, h2⟩⟩
instance (priority := 1100) {k : Ky} : KInv keyV (.agg #[.int .u32 (k.1 : Nat), .int .u32 (k.2.1 : Nat), .int .u8 (k.2.2.1 : Nat), .int .u16 (k.2.2.2 : Nat)]) k := ⟨rfl⟩
instance {c : Ctx} {L R : List Assn} {b s : Nat} {l : List (Ky × Nat)} {v : Value} {k : Ky} [hm : Fam (mapG keyV pv) L b l R] [hn : KInv keyV v k] : St Try.prog c L (.update 63 (.map (some b)) v (.pointer (some ⟨s, 0, none⟩))) (fun q => Vc (k ∉ l.map (·.1)) (q undef (mapG keyV pv b (l ++ [(k, s)]) :: R))) := St.upG keyV pv (kt := 67) (et := 68) rfl
instance {c : Ctx} {L R : List Assn} {b : Nat} {l : List (Ky × Nat)} {v : Value} {k : Ky} [hm : Fam (mapG keyV pv) L b l R] [hn : KInv keyV v k] : St Try.prog c L (.builtin .delete [.map (some b), v] [63, 67]) (fun q => q (.tuple #[]) (mapG keyV pv b (delG l k) :: R)) := St.delG keyV pv (kt := 67) (et := 68)
instance {c : Ctx} {L R : List Assn} {b i : Nat} {v : Value} {k : Ky} {es : List (Ky × Nat × Nat)} {cl : Nat} {z : List Nat} [hm : RngAt keyV pv L b i (es, cl, z) R] [hn : KInv keyV v k] : St Try.prog c L (.builtin .delete [.map (some b), v] [63, 67]) (fun q => q (.tuple #[]) (rngG keyV pv i (b, es.filter (fun x => decide (x.1 ≠ k)), cl, z) :: R)) := St.delR keyV pv (kt := 67) (et := 68)
instance {c : Ctx} {L R : List Assn} {b : Nat} {l : List (Ky × Nat)} [hm : Fam (mapG keyV pv) L b l R] : St Try.prog c L (.range 63 (.map (some b))) (fun q => ∀ i es clock, es.map (fun x => (x.1, x.2.1)) = l → EsOk es clock → q (.pointer (some ⟨i, 0, none⟩)) (rngG keyV pv i (b, es, clock, []) :: R)) := St.rngS keyV pv (kt := 67) (et := 68)
instance {c : Ctx} {L R : List Assn} {i b : Nat} {es : List (Ky × Nat × Nat)} {cl : Nat} {z : List Nat} [hm : Fam (rngG keyV pv) L i (b, es, cl, z) R] : St Try.prog c L (.next (.pointer (some ⟨i, 0, none⟩)) false) (fun q => ((∀ e ∈ es, e.2.2 ∈ z) → q (.tuple #[.bool false]) (rngG keyV pv i (b, es, cl, z) :: R)) ∧ ∀ e ∈ es, e.2.2 ∉ z → q (.tuple #[.bool true, keyV e.1, pv e.2.1]) (rngG keyV pv i (b, es, cl, z ++ [e.2.2]) :: R)) := St.nxtS keyV pv
instance {c : Ctx} {L R : List Assn} {i b : Nat} {es : List (Ky × Nat × Nat)} {cl : Nat} {z : List Nat} {e : Ky × Nat × Nat} [hm : Fam (rngG keyV pv) L i (b, es, cl, z ++ [e.2.2]) R] : Re Try.prog c L (.entry (.pointer (some ⟨i, 0, none⟩))) (fun q => Vc (e ∈ es) (q (.tuple #[keyV e.1, pv e.2.1]))) := Re.entS keyV pv
instance {L R : List Assn} {s : Nat} {x : PSet} {p : Pkt} {us : List Value} [hm : Fam setA L s x R] [hu : InvL pktV us p] : FnR Try.prog 28 [.pointer (some ⟨s, 0, none⟩), .agg us.toArray] L (fun kk => Vc (p.ok ∧ x.l.length < 100000 ∧ (∀ q ∈ x.l, q.ok) ∧ x.l.Pairwise (fun a b => a.off < b.off) ∧ (x.l.any (parE p) = false → ∀ q ∈ x.l, q.off ≠ p.off)) (kk (.int .i64 ((addE x p).2 : Nat)) (setA s (addE x p).1 :: R))) :=
  ⟨fun kk h => ⟨_, R, _, by rw [← hu.h]; exact add28 s x p h.l.1 h.l.2.1 h.l.2.2.1 h.l.2.2.2.1 h.l.2.2.2.2, .cons hm.h (.nil _), fun v L' hv => by rw [hv.1, hv.2]; exact h.r⟩⟩
instance {L R : List Assn} {s : Nat} {x : PSet} [hm : Fam setA L s x R] : FnR Try.prog 29 [.pointer (some ⟨s, 0, none⟩)] L (fun kk => Vc (0 < x.l.length ∧ x.l.length < 100000 ∧ (∀ q ∈ x.l, q.ok) ∧ (∀ q ∈ x.l, q.data ≠ []) ∧ (x.l.flatMap (·.data)).length < 1000000000) (kk (asResult [.agg (pktV ((wholeE x.l).getD zP)).toArray, .bool (wholeE x.l).isSome]) (setA s x :: R))) :=
  ⟨fun kk h => ⟨_, R, _, whole29 s x h.l.1 h.l.2.1 h.l.2.2.1 h.l.2.2.2.1 h.l.2.2.2.2, .cons hm.h (.nil _), fun v L' hv => by rw [hv.1, hv.2]; exact h.r⟩⟩
/-! The going through -/
def keepK (X : XS) (now : Nat) (k : Ky) : Bool := X.all fun y => !decide (y.2.key = k) || decide (now < y.2.til)
def fltZ (X : XS) (now : Nat) (es : List (Ky × Nat × Nat)) (z : List Nat) : List (Ky × Nat × Nat) := es.filter fun e => decide (e.2.2 ∉ z) || keepK X now e.1
theorem Imp.rng0 {X : XS} {now i m cl : Nat} {es : List (Ky × Nat × Nat)} {R : List Assn} : Imp (rngG keyV pv i (m, es, cl, []) :: R) (rngG keyV pv i (m, fltZ X now es [], cl, []) :: R) := by
  have : fltZ X now es [] = es := List.filter_eq_self.2 (fun e _ => by simp)
  rw [this]; exact Imp.refl _
theorem flt_mem {X : XS} {now : Nat} {es : List (Ky × Nat × Nat)} {z : List Nat} {e : Ky × Nat × Nat} (h : e ∈ fltZ X now es z) : e ∈ es := (List.mem_filter.1 h).1
theorem es_mem {X : XS} {es : List (Ky × Nat × Nat)} {e : Ky × Nat × Nat} (h : es.map (fun x => (x.1, x.2.1)) = X.map kpE) (he : e ∈ es) : e.2.1 ∈ X.map (·.1) := by
  have : (e.1, e.2.1) ∈ X.map kpE := by rw [← h]; exact List.mem_map_of_mem (f := fun x : Ky × Nat × Nat => (x.1, x.2.1)) he
  obtain ⟨y, hy, h2⟩ := List.mem_map.1 this
  rw [← (Prod.mk.inj h2).2]
  exact List.mem_map_of_mem (f := (·.1)) hy
/-- The places of sets are apart. -/
theorem setA_row {s : Nat} {x : PSet} {f : Frag} (h : setA s x f) : ∃ o, f s = some o := by
  obtain ⟨a, k, fr, h⟩ := setA_til h; exact ⟨_, h⟩
theorem famA_nodup {X : XS} {R : List Assn} {f : Frag} (hf : SLh (famA X :: R) f) : (X.map (·.1)).Nodup := by
  have h1 := Imp.flat (X := famA X) (R := R) (fun _ => Iff.rfl) f hf
  clear hf
  induction X generalizing f with
  | nil => exact List.nodup_nil
  | cons y X ih =>
    rw [List.map_cons, List.nodup_cons]
    refine ⟨fun hy => ?_, ih (f := f) (by simpa using h1.tail)⟩
    obtain ⟨z, hz, hzy⟩ := List.mem_map.1 hy
    obtain ⟨f1, f2, hd, k1, k2, ha, hl⟩ := h1
    obtain ⟨o, ho⟩ := setA_row ha
    have hl2 : LMem (setA z.1 z.2) (X.map (fun y => setA y.1 y.2) ++ R) := by
      have : ∀ (X : XS), z ∈ X → LMem (setA z.1 z.2) (X.map (fun y => setA y.1 y.2) ++ R) := by
        intro X
        induction X with
        | nil => intro h; cases h
        | cons w X ih =>
          intro h
          rcases List.mem_cons.1 h with rfl | h
          · exact .head _ _
          · exact .tail (ih h)
      exact this X hz
    obtain ⟨g, hg, hg2⟩ := SLh.mem hl2 hl
    obtain ⟨o2, ho2⟩ := setA_row hg
    have h3 := hg2 _ _ ho2
    rw [hzy] at h3
    rcases hd y.1 with h | h
    · rw [ho] at h; cases h
    · rw [h3] at h; cases h
theorem til_of {X : XS} {y : Nat × PSet} (hn : (X.map (·.1)).Nodup) (hy : y ∈ X) : tilOf X y.1 = y.2.til := by
  unfold tilOf
  have : X.find? (fun z => decide (z.1 = y.1)) = some y := by
    induction X with
    | nil => cases hy
    | cons z X ih =>
      rw [List.map_cons, List.nodup_cons] at hn
      rw [List.find?_cons]
      rcases List.mem_cons.1 hy with rfl | hy
      · simp
      · have : ¬ z.1 = y.1 := fun e => hn.1 (e ▸ List.mem_map_of_mem (f := (·.1)) hy)
        simp only [this, decide_false]
        exact ih hn.2 hy
  rw [this]; rfl
theorem keep_iff {X : XS} {now : Nat} {es : List (Ky × Nat × Nat)} {e : Ky × Nat × Nat} (h : es.map (fun x => (x.1, x.2.1)) = X.map kpE) (hn : (X.map (·.1)).Nodup) (hk : (X.map fun y => y.2.key).Nodup) (he : e ∈ es) : keepK X now e.1 = decide (now < tilOf X e.2.1) := by
  have : (e.1, e.2.1) ∈ X.map kpE := by rw [← h]; exact List.mem_map_of_mem (f := fun x : Ky × Nat × Nat => (x.1, x.2.1)) he
  obtain ⟨y, hy, h2⟩ := List.mem_map.1 this
  have e1 : y.2.key = e.1 := (Prod.mk.inj h2).1
  have e2 : y.1 = e.2.1 := (Prod.mk.inj h2).2
  rw [← e2, til_of hn hy]
  unfold keepK
  rw [Bool.eq_iff_iff, List.all_eq_true, decide_eq_true_eq]
  constructor
  · intro h3
    have := h3 y hy
    simpa [e1] using this
  · intro h3 z hz
    by_cases hzk : z.2.key = e.1
    · have : z = y := by
        obtain ⟨i, hi, rfl⟩ := List.getElem_of_mem hz
        obtain ⟨j, hj, rfl⟩ := List.getElem_of_mem hy
        have hij := (List.getElem_inj (xs := X.map fun y => y.2.key) (h₀ := by simpa using hi) (h₁ := by simpa using hj) hk).1 (by simp [hzk, e1])
        subst hij; rfl
      subst this; simp [h3]
    · simp [hzk]
theorem flt_keep {X : XS} {now : Nat} {es : List (Ky × Nat × Nat)} {z : List Nat} {e : Ky × Nat × Nat} {cl : Nat} (ho : EsOk es cl) (he : e ∈ es) (hk : keepK X now e.1 = true) : fltZ X now es z = fltZ X now es (z ++ [e.2.2]) := by
  unfold fltZ
  refine List.filter_congr fun x hx => ?_
  by_cases hxe : x.2.2 = e.2.2
  · have : x = e := by
      obtain ⟨i, hi, rfl⟩ := List.getElem_of_mem hx
      obtain ⟨j, hj, rfl⟩ := List.getElem_of_mem he
      have hij := (List.getElem_inj (xs := es.map fun y => y.2.2) (h₀ := by simpa using hi) (h₁ := by simpa using hj) ho.nd).1 (by simp [hxe])
      subst hij; rfl
    subst this; rw [hk]; simp
  · have : (x.2.2 ∉ z ++ [e.2.2]) ↔ x.2.2 ∉ z := by simp [hxe]
    rw [decide_eq_decide.2 this]
theorem flt_del {X : XS} {now : Nat} {es : List (Ky × Nat × Nat)} {z : List Nat} {e : Ky × Nat × Nat} {cl : Nat} (ho : EsOk es cl) (he : e ∈ es) (hk : keepK X now e.1 = false) : (fltZ X now es z).filter (fun x => decide (x.1 ≠ e.1)) = fltZ X now es (z ++ [e.2.2]) := by
  unfold fltZ
  rw [List.filter_filter]
  refine List.filter_congr fun x hx => ?_
  by_cases hxe : x.1 = e.1
  · have : x = e := by
      obtain ⟨i, hi, rfl⟩ := List.getElem_of_mem hx
      obtain ⟨j, hj, rfl⟩ := List.getElem_of_mem he
      have hij := (List.getElem_inj (xs := es.map fun y => y.1) (h₀ := by simpa using hi) (h₁ := by simpa using hj) ho.kd).1 (by simp [hxe])
      subst hij; rfl
    subst this; rw [hk]; simp
  · have h2 : x.2.2 ≠ e.2.2 := by
      intro h3
      obtain ⟨i, hi, rfl⟩ := List.getElem_of_mem hx
      obtain ⟨j, hj, rfl⟩ := List.getElem_of_mem he
      have hij := (List.getElem_inj (xs := es.map fun y => y.2.2) (h₀ := by simpa using hi) (h₁ := by simpa using hj) ho.nd).1 (by simp [h3])
      subst hij; exact hxe rfl
    have : (x.2.2 ∉ z ++ [e.2.2]) ↔ x.2.2 ∉ z := by simp [h2]
    have e3 : decide (x.2.2 ∉ z ++ [e.2.2]) = decide (x.2.2 ∉ z) := decide_eq_decide.2 this
    rw [e3]; simp [hxe]
theorem flt_fin {X : XS} {now : Nat} {es : List (Ky × Nat × Nat)} {z : List Nat} (h : es.map (fun x => (x.1, x.2.1)) = X.map kpE) (hk : (X.map fun y => y.2.key).Nodup) (hall : ∀ e ∈ fltZ X now es z, e.2.2 ∈ z) : (fltZ X now es z).map (fun x => (x.1, x.2.1)) = (X.filter fun y => decide (now < y.2.til)).map kpE := by
  have e1 : fltZ X now es z = es.filter fun e => keepK X now e.1 := by
    unfold fltZ
    refine List.filter_congr fun x hx => ?_
    by_cases hz : x.2.2 ∈ z
    · simp [hz]
    · exact absurd (hall x (List.mem_filter.2 ⟨hx, by simp [hz]⟩)) hz
  rw [e1]
  have e2 : (es.filter fun e => keepK X now e.1).map (fun x => (x.1, x.2.1)) = (es.map fun x => (x.1, x.2.1)).filter fun q => keepK X now q.1 := by rw [List.filter_map]; rfl
  rw [e2, h, List.filter_map]
  congr 1
  refine List.filter_congr fun y hy => ?_
  show keepK X now y.2.key = _
  unfold keepK
  rw [Bool.eq_iff_iff, List.all_eq_true, decide_eq_true_eq]
  constructor
  · intro h3
    have := h3 y hy
    simpa using this
  · intro h3 z hz
    by_cases hzk : z.2.key = y.2.key
    · have : z = y := by
        obtain ⟨i, hi, rfl⟩ := List.getElem_of_mem hz
        obtain ⟨j, hj, rfl⟩ := List.getElem_of_mem hy
        have hij := (List.getElem_inj (xs := X.map fun y => y.2.key) (h₀ := by simpa using hi) (h₁ := by simpa using hj) hk).1 (by simp [hzk])
        subst hij; rfl
      subst this; simp [h3]
    · simp [hzk]
theorem flt_mu {es : List (Ky × Nat × Nat)} {z : List Nat} {e : Ky × Nat × Nat} (he : e ∈ es) (hz : e.2.2 ∉ z) : (es.filter fun x => decide (x.2.2 ∉ z ++ [e.2.2])).length < (es.filter fun x => decide (x.2.2 ∉ z)).length :=
  filter_lt (fun x : Ky × Nat × Nat => decide (x.2.2 ∉ z)) (fun x => decide (x.2.2 ∉ z ++ [e.2.2])) (fun x hx => by simp at hx ⊢; exact hx.1) e (by simpa using hz) (by simp) es he
/-! The pieces' memory -/
def pcL (r most life : Nat) (z : Nat × XS) : List Assn := [row 65 r [.int .i64 most, .int .u64 life, .map (some z.1)], mapG keyV pv z.1 (z.2.map kpE), famA z.2]
def pcA (r most life : Nat) (S : List PSet) : Assn := exA (fun z : Nat × XS => z.2.map (·.2) = S) (pcL r most life)
theorem Imp.pc {r most life m : Nat} {S : List PSet} {X : XS} {l : List (Ky × Nat)} {L R : List Assn} (hX : X.map (·.2) = S) (hl : X.map kpE = l) (h : Imp L (row 65 r [.int .i64 most, .int .u64 life, .map (some m)] :: mapG keyV pv m l :: famA X :: R)) : Imp L (pcA r most life S :: R) := by
  subst hl
  exact Imp.shutA (p := fun z : Nat × XS => z.2.map (·.2) = S) (Ls := pcL r most life) (m, X) hX h

theorem T.famnd {P : Program} {r : Rd} {c : Ctx} {L R : List Assn} {code : Code} {Q : Exit → Env → Rd → World → Prop} {E : Env} {X : XS} (hd : Del (famA X) L R) (k : (X.map (·.1)).Nodup → T P r c L code Q E) : T P r c L code Q E := by
  unfold T at *
  intro w hw
  exact k (famA_nodup (hw.perm (Del.perm hd)).2.2.2) w hw
theorem _root_.Pw.T.atK {P : Program} {r : Rd} {c : Ctx} {L : List Assn} {Q : Exit → Env → Rd → World → Prop} {E : Env} (cd : Operand) {x1 x2 y : Code} (h : T P r c L (.cond cd x1 x2) (thenQ P r y Q) E) : T P r c L (.cond cd x1 x2) (thenQ P r y Q) E := h
theorem _root_.Pw.T.atSR {P : Program} {r : Rd} {c : Ctx} {L : List Assn} {Q : Exit → Env → Rd → World → Prop} {E : Env} (id : Nat) {ops : Array Oper} {dr : Bool} {y : Code} (h : T P r c L (.seq (.region id ops dr) y) Q E) : T P r c L (.seq (.region id ops dr) y) Q E := h
theorem Imp.famsub {X Y : XS} {L R : List Assn} (h : Del (famA X) L R) (hs : Y.Sublist X) : Imp L (famA Y :: R) := fun f hf => famA_sub hs f (Imp.pull h (Imp.refl _) f hf)
theorem Imp.pullF {X Y : XS} {L L' R : List Assn} (h : Del (famA X) L R) (hs : Y.Sublist X) (i : Imp R L') : Imp L (famA Y :: L') := (Imp.famsub h hs).trans (fun f hf => SLh.cons (fun g hg => i g hg) hf)
theorem Imp.split {m : Nat} {A B : XS} {s : Nat} {x : PSet} {k : Ky} {R : List Assn} (hk : x.key = k) : Imp (mapG keyV pv m ((A ++ (s, x) :: B).map kpE) :: famA (A ++ (s, x) :: B) :: R) (mapG keyV pv m (A.map kpE ++ (k, s) :: B.map kpE) :: setA s x :: famA (A ++ B) :: R) := by
  subst hk
  have : (A ++ (s, x) :: B).map kpE = A.map kpE ++ (x.key, s) :: B.map kpE := by simp
  rw [this]
  intro f hf
  obtain ⟨f1, f2, hd, k1, k2, ha, hl⟩ := hf
  exact ⟨f1, f2, hd, k1, k2, ha, famA_open f2 hl⟩
theorem map_mid {A B : XS} {s : Nat} {x : PSet} {k : Ky} (hk : x.key = k) : (A ++ (s, x) :: B).map kpE = A.map kpE ++ (k, s) :: B.map kpE := by subst hk; simp
theorem is_none {α : Type} {o : Option α} (h : o.isSome = false) : o = none := by cases o with | none => rfl | some _ => cases h
theorem offs_len : ∀ {l : List Pkt} {m : Nat}, l.Pairwise (fun a b => a.off < b.off) → (∀ q ∈ l, q.off < 1024 ∧ m ≤ q.off) → l = [] ∨ l.length + m ≤ 1024
  | [], _, _, _ => .inl rfl
  | q :: l, m, h, hb => by
    rw [List.pairwise_cons] at h
    have hq := hb q (List.mem_cons_self ..)
    rcases offs_len (m := q.off + 1) h.2 (fun y hy => ⟨(hb y (List.mem_cons_of_mem _ hy)).1, h.1 y hy⟩) with h1 | h1
    · subst h1; right; simp; omega
    · right; rw [List.length_cons]; omega
structure HandOk (x : PSet) : Prop where
  all : ∀ q ∈ x.l, q.ok
  dt : ∀ q ∈ x.l, q.data ≠ []
  en : ∀ q ∈ x.l, enE q ≤ 8192
  srt : x.l.Pairwise (fun a b => a.off < b.off)
theorem HandOk.off {x : PSet} (h : HandOk x) {q : Pkt} (hq : q ∈ x.l) : q.off < 1024 := by
  have h1 := h.en q hq
  have h2 := List.length_pos_iff.2 (h.dt q hq)
  unfold enE at h1; omega
theorem HandOk.len {x : PSet} (h : HandOk x) : x.l.length ≤ 1024 := by
  rcases offs_len (m := 0) h.srt (fun q hq => ⟨h.off hq, Nat.zero_le _⟩) with h1 | h1
  · rw [h1]; exact Nat.zero_le _
  · omega
theorem HandOk.sum {x : PSet} (h : HandOk x) : (x.l.flatMap (·.data)).length < 1000000000 := by
  have h1 := h.len
  have h2 : (x.l.flatMap (·.data)).length ≤ 8192 * x.l.length := by
    have : ∀ l : List Pkt, (∀ q ∈ l, q.data.length ≤ 8192) → (l.flatMap (·.data)).length ≤ 8192 * l.length := by
      intro l
      induction l with
      | nil => intro _; exact Nat.le_refl _
      | cons q l ih =>
        intro hb
        have := hb q (List.mem_cons_self ..)
        have := ih (fun y hy => hb y (List.mem_cons_of_mem _ hy))
        rw [List.flatMap_cons, List.length_append, List.length_cons]; omega
    exact this _ fun q hq => by have := h.en q hq; unfold enE at this; omega
  omega
theorem hand_ok {Y : XS} {most til : Nat} {k : Ky} {z : Nat × PSet × XS × XS} (h : inH Y most til k z) (hn : SsOk (Y.map (·.2))) : HandOk z.2.1 := by
  obtain ⟨s, x, A, B⟩ := z
  rcases h with ⟨_, h2, h3⟩ | ⟨_, _, h3, _⟩
  · have := hn.all x (by rw [h3]; simp)
    exact ⟨this.all, this.dt, this.en, this.srt⟩
  · dsimp only at *; subst h3
    exact ⟨fun _ h => (List.not_mem_nil h).elim, fun _ h => (List.not_mem_nil h).elim, fun _ h => (List.not_mem_nil h).elim, List.Pairwise.nil⟩
theorem par_off {x : PSet} {p : Pkt} (h : HandOk x) (hd : p.data ≠ []) : x.l.any (parE p) = false → ∀ q ∈ x.l, q.off ≠ p.off := by
  intro h1 q hq e
  have h2 : parE p q = false := by rw [List.any_eq_false] at h1; simpa using h1 q hq
  have h3 := List.length_pos_iff.2 (h.dt q hq)
  have h4 := List.length_pos_iff.2 hd
  have h5 : plE p < enE q := by unfold plE enE; omega
  have h6 : plE q < enE p := by unfold plE enE; omega
  simp [parE, h5, h6] at h2
theorem may_z {p : Pkt} (h : mayE p = 0) : p.data ≠ [] ∧ enE p ≤ 8192 := by
  unfold mayE at h
  split at h
  · cases h
  · rename_i h1
    split at h
    · cases h
    · exact ⟨fun e => h1 (.inl e), by omega⟩
theorem add_hand {x : PSet} {p : Pkt} (h : HandOk x) (hp : p.ok) (hm : mayE p = 0) : HandOk (addE x p).1 := by
  have hz := may_z hm
  unfold addE
  split
  · exact h
  · split
    · exact h
    · rename_i h1 h2
      have hpo := par_off h hz.1 (by simpa using h2)
      have hmem : ∀ q, q ∈ insE p x.l → q = p ∨ q ∈ x.l := fun q hq => List.mem_cons.1 ((insE_perm p x.l).mem_iff.1 hq)
      refine ⟨?_, ?_, ?_, insE_sorted p h.srt hpo⟩
      · intro q hq; rcases hmem q hq with rfl | hq
        · exact hp
        · exact h.all q hq
      · intro q hq; rcases hmem q hq with rfl | hq
        · exact hz.1
        · exact h.dt q hq
      · intro q hq; rcases hmem q hq with rfl | hq
        · exact hz.2
        · exact h.en q hq
theorem add_ne {x : PSet} {p : Pkt} (h : ¬ (addE x p).2 ≠ 0) : 0 < (addE x p).1.l.length := by
  unfold addE at *
  split
  · rename_i h1
    obtain ⟨q, hq, _⟩ := List.any_eq_true.1 h1
    exact List.length_pos_of_mem hq
  · split
    · rename_i h1 h2; rw [if_neg h1, if_pos h2] at h; exact absurd (show (181 : Nat) ≠ 0 by decide) h
    · show 0 < (insE p x.l).length
      rw [insE_len]; omega
theorem ins_head (p : Pkt) (k : Ky) (hp : keyE p = k) : ∀ l : List Pkt, (l ≠ [] → keyE (gt l 0) = k) → keyE (gt (insE p l) 0) = k
  | [], _ => hp
  | q :: l, h => by
    unfold insE; split
    · exact hp
    · exact h (by simp)
theorem add_key {Y : XS} {most til : Nat} {p : Pkt} {z : Nat × PSet × XS × XS} (h : inH Y most til (keyE p) z) (ha : ¬ (addE z.2.1 p).2 ≠ 0) : (addE z.2.1 p).1.key = keyE p := by
  obtain ⟨s, x, A, B⟩ := z
  dsimp only at *
  unfold addE at *
  rcases h with ⟨_, h2, _⟩ | ⟨_, _, h3, _⟩
  · dsimp only at h2
    split
    · exact h2
    · split
      · exact h2
      · exact ins_head p _ rfl _ (fun _ => h2)
  · dsimp only at h3
    subst h3
    exact ins_head p _ rfl _ (fun h => absurd rfl h)
theorem tk_hand {most life now : Nat} {S : List PSet} {Y : XS} {p : Pkt} {z : Nat × PSet × XS × XS} (h : inH Y most (now + life) (keyE p) z) (hS : expE S now = Y.map (·.2)) (h0 : ¬ 4611686018427387904 ≤ now) (h1 : ¬ (p.more = false ∧ p.off = 0)) (h2 : ¬ mayE p ≠ 0) : takeE most life S p now = finS (Y.map (·.2)) (keyE p) z.2.1 p := by
  rcases h with ⟨h3, _, _⟩ | ⟨h3, h4, h5, _⟩
  · rw [tk_some h0 h1 h2 (by rw [hS]; exact h3), hS]
  · rw [tk_new h0 h1 h2 (by rw [hS]; exact h3) (by rw [hS, List.length_map]; exact h4), hS, h5]

end Go.Proofs.Ytmhkmcoobpfkcaa

