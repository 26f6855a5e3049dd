/- Lemmas for the proofs of this seat: no statement of the seat is claimed here. -/
import Derived.Test.YtcidilijlgaohaaDoorPx5
set_option linter.all false
namespace Pw
open Go
/-! ## Many things of one kind -/
/-- The things at the places ps: x at p is of the cells F (x p). -/
def objF {α : Type} (F : α → List Value) (e : TypeId) (ps : List Nat) (x : Nat → α) : Assn := fun f => SLh (ps.map fun p => row e p (F (x p))) f
def upd {α : Type} (f : Nat → α) (p : Nat) (x : α) : Nat → α := fun q => if q = p then x else f q
theorem upd_same {α : Type} (f : Nat → α) (p : Nat) (x : α) : upd f p x p = x := if_pos rfl
theorem upd_ne {α : Type} (f : Nat → α) {p q : Nat} (x : α) (h : q ≠ p) : upd f p x q = f q := if_neg h
class SetF {α : Type} (F : α → List Value) (x : α) (o : Nat) (v : Value) (x' : outParam α) : Prop where h : (F x).set o v = F x' ∧ o < (F x).length
class ObjAt (L : List Assn) (α : outParam Type) (F : outParam (α → List Value)) (e : outParam TypeId) (ps : outParam (List Nat)) (x : outParam (Nat → α)) (R : outParam (List Assn)) : Prop where h : Del (objF F e ps x) L R
section
variable {α : Type} {F : α → List Value} {e : TypeId} {ps : List Nat} {x : Nat → α}
theorem row_apart {e e' : TypeId} {b : Nat} {cs cs' : List Value} {R : List Assn} {f : Frag} (h : SLh (row e b cs :: row e' b cs' :: R) f) : False := by
  obtain ⟨f1, f2, hd, h1, h2, ⟨_, _, ha⟩, g1, g2, _, k1, k2, ⟨_, _, hb⟩, _⟩ := h
  have := k1 b _ hb
  rcases hd b with h | h
  · rw [ha] at h; cases h
  · rw [this] at h; cases h
theorem objF_perm {p : Nat} (hp : p ∈ ps) : ∃ qs, ps.Perm (p :: qs) := ⟨ps.erase p, List.perm_cons_erase hp⟩
theorem Imp.flat {Ls R : List Assn} {X : Assn} (h : ∀ f, X f ↔ SLh Ls f) : Imp (X :: R) (Ls ++ R) := fun f hf => by
  obtain ⟨f1, f2, hd, h1, h2, ha, hl⟩ := hf
  exact SLh.flat hd h1 h2 ((h f1).1 ha) hl
theorem Imp.shut {Ls R : List Assn} {X : Assn} (h : ∀ f, X f ↔ SLh Ls f) : Imp (Ls ++ R) (X :: R) := fun f hf => by
  obtain ⟨f1, f2, hd, h1, h2, ha, hl⟩ := SLh.shut hf
  exact ⟨f1, f2, hd, h1, h2, (h f1).2 ha, hl⟩
/-- One is taken out. -/
theorem objF_open {p : Nat} {qs R : List Assn} (hp : p ∈ ps) : Imp (objF F e ps x :: R) (row e p (F (x p)) :: objF F e (ps.erase p) x :: R) := fun f hf => by
  have h1 := Imp.flat (X := objF F e ps x) (R := R) (fun _ => Iff.rfl) f hf
  have h2 : SLh ((p :: ps.erase p).map (fun p => row e p (F (x p))) ++ R) f := h1.perm (((List.perm_cons_erase hp).map _).append_right _)
  obtain ⟨f1, f2, hd, k1, k2, ha, hl⟩ := h2
  exact ⟨f1, f2, hd, k1, k2, ha, Imp.shut (X := objF F e (ps.erase p) x) (R := R) (fun _ => Iff.rfl) f2 hl⟩
/-- No place stands twice. -/
theorem objF_nodup {R : List Assn} {f : Frag} (hf : SLh (objF F e ps x :: R) f) : ps.Nodup := by
  have h1 := Imp.flat (X := objF F e ps x) (R := R) (fun _ => Iff.rfl) f hf
  clear hf
  induction ps generalizing f with
  | nil => exact List.nodup_nil
  | cons p ps ih =>
    refine List.nodup_cons.2 ⟨fun hp => ?_, ih (f := f) (by simpa using h1.tail)⟩
    have h2 : SLh ((p :: p :: ps.erase p).map (fun p => row e p (F (x p))) ++ R) f := h1.perm ((((List.perm_cons_erase hp).cons p).map _).append_right _)
    exact row_apart h2
theorem objF_apart {R : List Assn} {e' : TypeId} {b : Nat} {cs : List Value} {f : Frag} (hf : SLh (row e' b cs :: objF F e ps x :: R) f) : b ∉ ps := fun hp => by
  obtain ⟨f1, f2, hd, h1, h2, ha, hl⟩ := hf
  have := objF_open (R := R) (qs := []) hp f2 hl
  have h3 : SLh (row e' b cs :: row e b (F (x b)) :: objF F e (ps.erase b) x :: R) f := ⟨f1, f2, hd, h1, h2, ha, this⟩
  exact row_apart h3
theorem objF_congr {y : Nat → α} (h : ∀ p ∈ ps, x p = y p) : objF F e ps x = objF F e ps y := by
  unfold objF
  rw [List.map_congr_left (fun p hp => by rw [h p hp])]
/-- One more. -/
theorem objF_push {b : Nat} {v : α} {R : List Assn} : Imp (row e b (F v) :: objF F e ps x :: R) (objF F e (ps ++ [b]) (upd x b v) :: R) := fun f hf => by
  have hb := objF_apart hf
  obtain ⟨f1, f2, hd, h1, h2, ha, hl⟩ := hf
  have h3 := Imp.flat (X := objF F e ps x) (R := R) (fun _ => Iff.rfl) f2 hl
  have h4 : SLh (row e b (F v) :: ((ps.map fun p => row e p (F (x p))) ++ R)) f := ⟨f1, f2, hd, h1, h2, ha, h3⟩
  refine Imp.shut (X := objF F e (ps ++ [b]) (upd x b v)) (fun _ => Iff.rfl) f ?_
  have e1 : (ps ++ [b]).map (fun p => row e p (F (upd x b v p))) = (ps.map fun p => row e p (F (x p))) ++ [row e b (F v)] := by
    rw [List.map_append]
    congr 1
    · exact List.map_congr_left fun p hp => by rw [upd_ne _ _ (fun h => hb (by rw [← h]; exact hp))]
    · simp [upd_same]
  rw [e1, List.append_assoc]
  exact h4.perm List.perm_middle.symm
/-- One is turned. -/
theorem objF_turn {p : Nat} {v : α} {R : List Assn} {f f' : Frag} (hp : p ∈ ps) (hf : SLh (objF F e ps x :: R) f) (h : ∀ R', SLh (row e p (F (x p)) :: R') f → SLh (row e p (F v) :: R') f') : SLh (objF F e ps (upd x p v) :: R) f' := by
  have hn := objF_nodup hf
  have h1 := h _ (objF_open (qs := []) hp f hf)
  obtain ⟨f1, f2, hd, k1, k2, ha, hl⟩ := h1
  have hl' : SLh (objF F e (ps.erase p) (upd x p v) :: R) f2 := by
    rw [objF_congr (y := x) (fun q hq => upd_ne _ _ (fun h => by subst h; exact hn.not_mem_erase hq))]; exact hl
  have h3 := Imp.flat (X := objF F e (ps.erase p) (upd x p v)) (R := R) (fun _ => Iff.rfl) f2 hl'
  refine Imp.shut (X := objF F e ps (upd x p v)) (fun _ => Iff.rfl) f' ?_
  have h4 : SLh ((p :: ps.erase p).map (fun q => row e q (F (upd x p v q))) ++ R) f' := by
    refine ⟨f1, f2, hd, k1, k2, ?_, h3⟩
    dsimp only
    rw [upd_same]; exact ha
  exact h4.perm (((List.perm_cons_erase hp).symm.map _).append_right _)
instance (priority := 1100) {L : List Assn} : ObjAt (objF F e ps x :: L) α F e ps x L := ⟨.head _ _⟩
instance {A : Assn} {L R : List Assn} [h : ObjAt L α F e ps x R] : ObjAt (A :: L) α F e ps x (A :: R) := ⟨.tail h.h⟩
end
section
variable {P : Program} {r : Rd} {c : Ctx} {L R : List Assn} {α : Type} {F : α → List Value} {e t : TypeId} {ps : List Nat} {x : Nat → α} {b o : Nat} {v : Value}
instance (priority := 900) [hp : Pl P t] [hr : ObjAt L α F e ps x R] [hg : GL (F (x b)) o v] : Re P c L (.load t (.pointer (some ⟨b, o, none⟩))) (fun k => Vc (b ∈ ps) (k v)) :=
  ⟨fun E d op ty pos af g hs k hk => by
    cases hs with | load e1 =>
    refine ⟨_, D.ld (A := objF F e ps x) e1 hp.h (Del.lmem hr.h) ?_, hk.r⟩
    intro f w hf hw
    have h1 := objF_open (R := []) (qs := []) hk.l f ⟨f, fun _ => none, fun _ => .inr rfl, fun _ _ h => h, (fun _ _ (h : none = some _) => nomatch h), hf, trivial⟩
    obtain ⟨f1, _, _, k1, _, ha, _⟩ := h1
    exact Reads.row hg.h f1 w ha fun b o h => hw b o (k1 b o h)⟩
theorem N.stO {E : Env} {d : Option Tmp} {ty : TypeId} {pos : String} {af : Array Edge} {g : Option (Nat × Bool)} {a y : Operand} {v' : α} (hx : E.eval a = .pointer (some ⟨b, o, none⟩)) (hy : E.eval y = v) (hi : P.cellsOf t = 1)
    (hd : Del (objF F e ps x) L R) (hb : b ∈ ps) (hF : (F (x b)).set o v = F v') (ho : o < (F (x b)).length) (hv : v.oneCell' = true) :
    N P r c L E ⟨d, .store t a y, ty, pos, af, g⟩ (fun u L'' => u = undef ∧ L'' = objF F e ps (upd x b v') :: R) := by
  have key := fun (R' : List Assn) => N.st (P := P) (r := r) (c := c) (L := row e b (F (x b)) :: R') (d := d) (ty := ty) (pos := pos) (af := af) (g := g) hx hy hi (.head _ _ _) ho hv
  unfold N at *
  intro w hw K Q hK
  have hw1 := hw.perm hd.perm
  have h2 : SL c (row e b (F (x b)) :: objF F e (ps.erase b) x :: R) w := ⟨hw1.1, hw1.2.1, hw1.2.2.1, objF_open (qs := []) hb _ hw1.2.2.2⟩
  obtain ⟨fr, hfr, hw2⟩ := SL.row h2
  have hbk := hw2.heap (.head _ _)
  have h3 : ∀ w', SL c (objF F e ps (upd x b v') :: R) w' → K ((E.acd r).put d undef) w' := fun w' h => hK undef _ w' ⟨rfl, rfl⟩ h
  refine key (objF F e (ps.erase b) x :: R) w h2 K Q ?_
  rintro u L' w' ⟨rfl, rfl⟩ hw'
  refine h3 w' ⟨hw'.1, hw'.2.1, hw'.2.2.1, ?_⟩
  rw [hF] at hw'
  have hn := objF_nodup hw1.2.2.2
  obtain ⟨f1, f2, hd', k1, k2, ha, hl⟩ := hw'.2.2.2
  have hl' : SLh (objF F e (ps.erase b) (upd x b v') :: R) f2 := by
    rw [objF_congr (y := x) (fun q hq => upd_ne _ _ (fun h => by subst h; exact hn.not_mem_erase hq))]; exact hl
  have h5 := Imp.flat (X := objF F e (ps.erase b) (upd x b v')) (R := R) (fun _ => Iff.rfl) f2 hl'
  refine Imp.shut (X := objF F e ps (upd x b v')) (fun _ => Iff.rfl) _ ?_
  have h4 : SLh ((b :: ps.erase b).map (fun q => row e q (F (upd x b v' q))) ++ R) (fun b => w'.heap[b]?) := by
    refine ⟨f1, f2, hd', k1, k2, ?_, h5⟩
    dsimp only
    rw [upd_same]; exact ha
  exact h4.perm (((List.perm_cons_erase hb).symm.map _).append_right _)
instance (priority := 900) {v' : α} [hz : Sz P t 0] [h1 : One v] [hr : ObjAt L α F e ps x R] [hf : SetF F (x b) o v v'] : St P c L (.store t (.pointer (some ⟨b, o, none⟩)) v) (fun k => Vc (b ∈ ps) (k undef (objF F e ps (upd x b v') :: R))) :=
  ⟨fun r E d op ty pos af g hs k hk => by
    cases hs with | store e1 e2 =>
    exact (N.stO e1 e2 hz.h hr.h hk.l hf.h.1 hf.h.2 h1.h).imp fun _ _ hq => by rw [hq.1, hq.2]; exact hk.r⟩
end
end Pw
