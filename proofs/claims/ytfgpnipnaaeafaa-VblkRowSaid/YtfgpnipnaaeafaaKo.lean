/- Lemmas for the proofs of this seat: no statement of the seat is claimed here. -/
import Derived.Test.YtfgpnipnaaeafaaKl
import Derived.Test.YtfgpnipnaaeafaaKc
set_option linter.all false

namespace Go.Proofs.Ytfgpnipnaaeafaa
open Go Pw
set_option maxRecDepth 20000
set_option maxHeartbeats 4000000
set_option synthInstance.maxHeartbeats 400000
set_option synthInstance.maxSize 4000
set_option maxHeartbeats 8000000
theorem cloneB_spec (k : Nat) (a : Option Addr) (l : List Bf) (hl : 0 < l.length) (hn : l.length ≤ 1000) :
    Sat Try.prog 50 [.slice a l.length k] [Pw.sl 90 (2 + 1) (.slice a l.length k) l.length (l.flatMap bufV)] (fun u L' => ∃ a2 k2, u = .slice a2 l.length k2 ∧ L' = [Pw.sl 90 (2 + 1) (.slice a l.length k) l.length (l.flatMap bufV), Pw.sl 90 (2 + 1) (.slice a2 l.length k2) l.length (l.flatMap bufV)]) := by
  refine Sat.sl_at (.head _ _) hl ?_
  rintro ⟨b0, k0, hv⟩
  cases hv
  all_goals
    refine Sat.enter Try.func50 rfl Try.ntmps50 rfl (fun c R => ?_)
    try simp only [List.cons_append, List.nil_append]
    repeat' (first
      | (refine finAt ?_; rw [Nat.zero_add]; exact Fini.of ⟨_, _, rfl, rfl⟩ (by repeat first | exact Imp.refl _ | (apply Imp.pull; focus ((repeat first | exact Del.head _ _ | apply Del.tail); done)) | apply Imp.drop))
      | refine And.intro (fun hc => ?_) (fun hc => ?_)
      | refine And.intro ?_ ?_
      | intro b
      | refine stp ?_
      | refine TQ.finC ?_
      | refine TQ.finC2 ?_
      | refine TQ.finC3 ?_
      | refine ⟨fun hc => ?_, fun hc => ?_⟩
      | refine Ei.f ?_
      | refine ⟨?_, ?_⟩
      | intro b
      | exact absurd rfl hc
      | exact absurd hc (by decide)
      | omega
      | (dsimp only; omega)
      | fail)

end Go.Proofs.Ytfgpnipnaaeafaa


namespace Go.Proofs.Ytfgpnipnaaeafaa
open Go Pw
set_option maxRecDepth 20000
set_option maxHeartbeats 4000000
set_option synthInstance.maxHeartbeats 400000
set_option synthInstance.maxSize 4000
set_option maxHeartbeats 4000000

structure Ch where
  (d : List Nat) (l : List Bf) (da : Option Addr) (dk : Nat) (ba : Option Addr) (bk : Nat)
abbrev chV (c : Ch) : Value := .agg #[.slice c.da c.d.length c.dk, .slice c.ba c.l.length c.bk]
def chA (c : Ch) : Assn := fun f => SLh [Pw.sl 39 (0 + 1) (.slice c.da c.d.length c.dk) c.d.length (c.d.map u16W), Pw.sl 90 (2 + 1) (.slice c.ba c.l.length c.bk) c.l.length (c.l.flatMap bufV)] f
abbrev XC := List (Nat × Ch)
/-- What the chains hold. -/
def famC (X : XC) : Assn := fun f => SLh (X.map fun y => chA y.2) f
theorem famC_open {A B : XC} {k : Nat} {c : Ch} {R : List Assn} : Imp (famC (A ++ (k, c) :: B) :: R) (Pw.sl 39 (0 + 1) (.slice c.da c.d.length c.dk) c.d.length (c.d.map u16W) :: Pw.sl 90 (2 + 1) (.slice c.ba c.l.length c.bk) c.l.length (c.l.flatMap bufV) :: famC (A ++ B) :: R) := fun f hf => by
  have h1 := Imp.flat (X := famC (A ++ (k, c) :: B)) (R := R) (fun _ => Iff.rfl) f hf
  rw [List.map_append, List.map_cons] at h1
  have h2 : SLh (chA c :: ((A ++ B).map fun y => chA y.2) ++ R) f := by
    refine h1.perm ?_
    rw [List.map_append, List.cons_append]
    exact (List.perm_middle (l₁ := A.map fun y => chA y.2) (l₂ := B.map fun y => chA y.2) (a := chA c)).append_right R
  obtain ⟨f1, f2, hd, k1, k2, ha, hl⟩ := h2
  exact Imp.flat (X := chA c) (R := famC (A ++ B) :: R) (fun _ => Iff.rfl) f ⟨f1, f2, hd, k1, k2, ha, Imp.shut (X := famC (A ++ B)) (R := R) (fun _ => Iff.rfl) f2 hl⟩
theorem famC_shut {A B : XC} {k : Nat} {c : Ch} {R : List Assn} : Imp (Pw.sl 39 (0 + 1) (.slice c.da c.d.length c.dk) c.d.length (c.d.map u16W) :: Pw.sl 90 (2 + 1) (.slice c.ba c.l.length c.bk) c.l.length (c.l.flatMap bufV) :: famC (A ++ B) :: R) (famC (A ++ (k, c) :: B) :: R) := fun f hf => by
  obtain ⟨f1, f2, hd, k1, k2, ha, hl⟩ := Imp.shut (X := chA c) (R := famC (A ++ B) :: R) (fun _ => Iff.rfl) f hf
  have h1 := Imp.flat (X := famC (A ++ B)) (R := R) (fun _ => Iff.rfl) f2 hl
  refine Imp.shut (X := famC (A ++ (k, c) :: B)) (R := R) (fun _ => Iff.rfl) f ?_
  have h2 : SLh (chA c :: (((A ++ B).map fun y => chA y.2) ++ R)) f := ⟨f1, f2, hd, k1, k2, ha, h1⟩
  refine h2.perm ?_
  rw [List.map_append, List.map_append, List.map_cons, ← List.cons_append]
  exact (List.perm_middle (l₁ := A.map fun y => chA y.2) (l₂ := B.map fun y => chA y.2) (a := chA c)).symm.append_right R
theorem famC_nil {L : List Assn} : Imp L (famC [] :: L) := fun f hf => ⟨fun _ => none, f, fun _ => .inl rfl, (fun _ _ (h : none = some _) => nomatch h), fun _ _ h => h, trivial, hf⟩
class FamCh (L : List Assn) (X : outParam XC) (R : outParam (List Assn)) : Prop where h : Del (famC X) L R
instance (priority := 1100) {L : List Assn} {X : XC} : FamCh (famC X :: L) X L := ⟨.head _ _⟩
instance {A : Assn} {L R : List Assn} {X : XC} [h : FamCh L X R] : FamCh (A :: L) X (A :: R) := ⟨.tail h.h⟩
theorem atJ_split {X : XC} {n : Nat} {c : Ch} (h : atJ X n = some c) : ∃ A B, X = A ++ (n, c) :: B ∧ Pw.delJ X n = A ++ B ∧ n ∉ A.map (·.1) := by
  induction X with
  | nil => cases h
  | cons y X ih =>
    obtain ⟨m, c'⟩ := y
    unfold atJ at h
    rw [List.find?_cons] at h
    by_cases hm : m = n
    · subst hm
      simp at h
      subst h
      exact ⟨[], X, rfl, by simp [Pw.delJ, List.findIdx?_cons], by simp⟩
    · simp only [hm, decide_false] at h
      obtain ⟨A, B, e1, e2, e3⟩ := ih h
      refine ⟨(m, c') :: A, B, by rw [e1]; rfl, ?_, ?_⟩
      · unfold Pw.delJ at e2 ⊢
        rw [List.findIdx?_cons]
        simp only [hm, decide_false]
        cases hf : X.findIdx? (fun q => decide (q.1 = n)) with
        | none => simp [hf] at e2 ⊢; exact e2
        | some i => simp [hf] at e2 ⊢; exact e2
      · simp only [List.map_cons, List.mem_cons, not_or]
        exact ⟨fun e => hm e.symm, e3⟩
theorem famC_at {X : XC} {n : Nat} {c : Ch} {L R : List Assn} (hd : Del (famC X) L R) (h : atJ X n = some c) : Imp L (Pw.sl 39 (0 + 1) (.slice c.da c.d.length c.dk) c.d.length (c.d.map u16W) :: Pw.sl 90 (2 + 1) (.slice c.ba c.l.length c.bk) c.l.length (c.l.flatMap bufV) :: famC (Pw.delJ X n) :: R) := by
  obtain ⟨A, B, e1, e2, _⟩ := atJ_split h
  refine (Imp.pull hd (Imp.refl R)).trans ?_
  rw [e1, ← e1, e2, e1]
  exact famC_open
theorem famC_back {X : XC} {n : Nat} {c : Ch} {R : List Assn} (h : atJ X n = some c) : Imp (Pw.sl 39 (0 + 1) (.slice c.da c.d.length c.dk) c.d.length (c.d.map u16W) :: Pw.sl 90 (2 + 1) (.slice c.ba c.l.length c.bk) c.l.length (c.l.flatMap bufV) :: famC (Pw.delJ X n) :: R) (famC X :: R) := by
  obtain ⟨A, B, e1, e2, _⟩ := atJ_split h
  rw [e2, e1]
  exact famC_shut
theorem famC_snoc {X : XC} {k : Nat} {c : Ch} {R : List Assn} : Imp (Pw.sl 39 (0 + 1) (.slice c.da c.d.length c.dk) c.d.length (c.d.map u16W) :: Pw.sl 90 (2 + 1) (.slice c.ba c.l.length c.bk) c.l.length (c.l.flatMap bufV) :: famC X :: R) (famC (X ++ [(k, c)]) :: R) := by
  have := famC_shut (A := X) (B := []) (k := k) (c := c) (R := R)
  rw [List.append_nil] at this
  exact this
theorem Imp.pullC {X : XC} {n : Nat} {c : Ch} {L L1 L2 R L' : List Assn} (h1 : Del (Pw.sl 39 (0 + 1) (.slice c.da c.d.length c.dk) c.d.length (c.d.map u16W)) L L1) (h2 : Del (Pw.sl 90 (2 + 1) (.slice c.ba c.l.length c.bk) c.l.length (c.l.flatMap bufV)) L1 L2) (h3 : Del (famC (Pw.delJ X n)) L2 R) (h : atJ X n = some c) (i : Imp R L') : Imp L (famC X :: L') :=
  (Imp.pull h1 (Imp.pull h2 (Imp.pull h3 (Imp.refl R)))).trans ((famC_back h).trans (fun f hf => SLh.cons (fun g hg => i g hg) hf))
theorem Imp.pushC {X : XC} {n : Nat} {c : Ch} {L L1 L2 R L' : List Assn} (h1 : Del (Pw.sl 39 (0 + 1) (.slice c.da c.d.length c.dk) c.d.length (c.d.map u16W)) L L1) (h2 : Del (Pw.sl 90 (2 + 1) (.slice c.ba c.l.length c.bk) c.l.length (c.l.flatMap bufV)) L1 L2) (h3 : Del (famC X) L2 R) (i : Imp R L') : Imp L (famC (X ++ [(n, c)]) :: L') :=
  (Imp.pull h1 (Imp.pull h2 (Imp.pull h3 (Imp.refl R)))).trans ((famC_snoc (k := n)).trans (fun f hf => SLh.cons (fun g hg => i g hg) hf))
instance {c : Ctx} {L : List Assn} : St Try.prog c L (.mkMap 81) (fun q => ∀ b, q (.map (some b)) (mapJ chV b (.u16, []) :: L)) := St.mkMapJ chV (kt := 39) (et := 118)
instance {c : Ctx} {L R : List Assn} {b : Nat} {l : XC} [hm : Fam (mapJ chV) L b (.u16, l) R] : Re Try.prog c L (.builtin .len [.map (some b)] [81]) (fun q => q (.int .i64 (l.length : Nat))) := Re.lenJ chV (kt := 39) (et := 118)
instance {c : Ctx} {L R : List Assn} {b n : Nat} {x : Int} {l : XC} [hm : Fam (mapJ chV) L b (.u16, l) R] [hn : Nn x n] : Re Try.prog c L (.lookup 81 (.map (some b)) (.int .u16 x) true) (fun q => Opt (atJ l n) (q (.tuple #[.agg #[.slice none 0 0, .slice none 0 0], .bool false])) (fun p => q (.tuple #[chV p, .bool true]))) := Re.lkJ2 chV (kt := 39) (et := 118)
instance {c : Ctx} {L R : List Assn} {b n m1 m2 k1 k2 : Nat} {a1 a2 : Option Addr} {x : Int} {X : XC} {d : List Nat} {l : List Bf} [hm : Fam (mapJ chV) L b (.u16, X) R] [hn : Nn x n] [h1 : SlMem L (.slice a1 m1 k1) 39 (0 + 1) m1 (d.map u16W)] [h2 : SlMem L (.slice a2 m2 k2) 90 (2 + 1) m2 (l.flatMap bufV)] : St Try.prog c L (.update 81 (.map (some b)) (.int .u16 x) (.agg #[.slice a1 m1 k1, .slice a2 m2 k2])) (fun q => Vc (m1 = d.length ∧ m2 = l.length ∧ n ∉ X.map (·.1)) (q undef (mapJ chV b (.u16, X ++ [(n, ⟨d, l, a1, k1, a2, k2⟩)]) :: R))) :=
  ⟨fun r E d_ op ty pos af g hs q hq => by
    obtain ⟨⟨e1, e2, e3⟩, h⟩ := hq
    subst e1
    subst e2
    exact (St.upJ (P := Try.prog) (c := c) (L := L) (p := ⟨d, l, a1, k1, a2, k2⟩) chV (kt := 39) (et := 118) rfl).go r E d_ op ty pos af g hs q ⟨e3, h⟩⟩
instance {c : Ctx} {L R : List Assn} {b n : Nat} {x : Int} {l : XC} [hm : Fam (mapJ chV) L b (.u16, l) R] [hn : Nn x n] : St Try.prog c L (.builtin .delete [.map (some b), .int .u16 x] [81, 39]) (fun q => q (.tuple #[]) (mapJ chV b (.u16, Pw.delJ l n) :: R)) := St.delJ chV (kt := 39) (et := 118)
/-- The descriptors that a chain of j takes: they, what is taken then, the last. -/
def stE (tk : List Bool) : Nat → List Nat × List Bool × Int
  | 0 => ([], tk, -1)
  | j + 1 => ((stE tk j).1 ++ [nxtF (stE tk j).2.1 ((stE tk j).2.2 + 1).toNat], (stE tk j).2.1.set (nxtF (stE tk j).2.1 ((stE tk j).2.2 + 1).toNat) true, (nxtF (stE tk j).2.1 ((stE tk j).2.2 + 1).toNat : Nat))
class LkRow (L : List Assn) (b : Nat) (e : outParam TypeId) (cs : outParam (List Value)) (R : outParam (List Assn)) : Prop where h : Del (lk (row e b cs)) L R
instance (priority := 1100) {L : List Assn} {b : Nat} {e : TypeId} {cs : List Value} : LkRow (lk (row e b cs) :: L) b e cs L := ⟨.head _ _⟩
instance {A : Assn} {L R : List Assn} {b : Nat} {e : TypeId} {cs : List Value} [h : LkRow L b e cs R] : LkRow (A :: L) b e cs (A :: R) := ⟨.tail h.h⟩
instance (priority := 900) {L R : List Assn} {r at_ n nx ls : Nat} {vp : Value} {br : Bool} {vm vt : Value} [h1 : LkRow L r 84 [vm, .int .u32 (at_ : Nat), .int .i64 (n : Nat), vp, vt, .int .u16 (nx : Nat), .int .u16 (ls : Nat), .bool br] R] : FnR Try.prog 36 [.pointer (some ⟨r, 0, none⟩)] L (fun kk => Vc (n ≤ 256 ∧ at_ ≤ 1048576) (kk (.int .u32 (at_ + partN n : Nat)) (lk (row 84 r [vm, .int .u32 (at_ : Nat), .int .i64 (n : Nat), vp, vt, .int .u16 (nx : Nat), .int .u16 (ls : Nat), .bool br]) :: R))) :=
  ⟨fun kk h => by
    have h2 := h1.h
    unfold lk at h h2
    exact ⟨_, R, _, used_spec r at_ n nx ls vm vp vt br h.l.1 h.l.2, .cons h2 (.nil _), fun v L' hv => by rw [hv.1, hv.2]; exact h.r⟩⟩
instance (priority := 900) {L R : List Assn} {r at_ n nx ls : Nat} {vp : Value} {br : Bool} {vm vt : Value} [h1 : LkRow L r 84 [vm, .int .u32 (at_ : Nat), .int .i64 (n : Nat), vp, vt, .int .u16 (nx : Nat), .int .u16 (ls : Nat), .bool br] R] : FnR Try.prog 14 [.pointer (some ⟨r, 0, none⟩)] L (fun kk => Vc (n ≤ 256 ∧ at_ ≤ 1048576) (kk (.int .u32 (at_ + 16 * n : Nat)) (lk (row 84 r [vm, .int .u32 (at_ : Nat), .int .i64 (n : Nat), vp, vt, .int .u16 (nx : Nat), .int .u16 (ls : Nat), .bool br]) :: R))) :=
  ⟨fun kk h => by
    have h2 := h1.h
    unfold lk at h h2
    exact ⟨_, R, _, avail_spec r at_ n nx ls vm vp vt br h.l.1 h.l.2, .cons h2 (.nil _), fun v L' hv => by rw [hv.1, hv.2]; exact h.r⟩⟩
theorem breaks_spec (r at_ n nx ls : Nat) (vm vp vt : Value) (br : Bool) :
    Sat Try.prog 77 [.pointer (some ⟨r, 0, none⟩)] [row 84 r [vm, .int .u32 at_, .int .i64 n, vp, vt, .int .u16 nx, .int .u16 ls, .bool br]] (fun u L' => u = .tuple #[.agg #[.int .u16 0, .int .u32 0], .bool false, .int .i64 20] ∧ L' = [row 84 r [vm, .int .u32 at_, .int .i64 n, vp, vt, .int .u16 nx, .int .u16 ls, .bool true]]) := by
  all_goals
    refine Sat.enter Try.func77 rfl Try.ntmps77 rfl (fun c R => ?_)
    try simp only [List.cons_append, List.nil_append]
    repeat' (first
      | (exact Fini.of ⟨rfl, rfl⟩ (by repeat first | exact Imp.refl _ | (apply Imp.pull; focus ((repeat first | exact Del.head _ _ | apply Del.tail); done)) | apply Imp.drop))
      | refine And.intro (fun hc => ?_) (fun hc => ?_)
      | refine And.intro ?_ ?_
      | intro b
      | refine stp ?_
      | refine TQ.finC ?_
      | refine TQ.finC2 ?_
      | refine TQ.finC3 ?_
      | refine ⟨fun hc => ?_, fun hc => ?_⟩
      | refine Ei.f ?_
      | refine ⟨?_, ?_⟩
      | intro b
      | exact absurd rfl hc
      | exact absurd hc (by decide)
      | omega
      | (dsimp only; omega)
      | fail)

end Go.Proofs.Ytfgpnipnaaeafaa

