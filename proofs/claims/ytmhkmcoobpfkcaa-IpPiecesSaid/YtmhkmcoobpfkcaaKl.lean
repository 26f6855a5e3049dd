/- Lemmas for the proofs of this seat: no statement of the seat is claimed here. -/
import Derived.Test.YtmhkmcoobpfkcaaKj
import Derived.Test.YtmhkmcoobpfkcaaKh
set_option linter.all false

namespace Go.Proofs.Ytmhkmcoobpfkcaa
open Go Pw
set_option maxRecDepth 20000
set_option maxHeartbeats 4000000
set_option synthInstance.maxHeartbeats 400000
set_option synthInstance.maxSize 4000
set_option maxHeartbeats 4000000

structure PSet where
  (l : List Pkt) (til : Nat)
instance : Inhabited PSet := ⟨⟨[], 0⟩⟩
def setL (s : Nat) (x : PSet) (z : Option Addr × Nat) : List Assn := [row 70 s [.slice z.1 x.l.length z.2, .int .u64 x.til], Pw.sl 38 (8 + 1) (.slice z.1 x.l.length z.2) x.l.length (x.l.flatMap pktV)]
def setA (s : Nat) (x : PSet) : Assn := exA (fun _ : Option Addr × Nat => True) (setL s x)
theorem Imp.set {s : Nat} {x : PSet} {a : Option Addr} {k n : Nat} {us : List Value} {L R : List Assn} (hn : x.l.length = n) (hu : x.l.flatMap pktV = us) (h : Imp L (row 70 s [.slice a n k, .int .u64 x.til] :: Pw.sl 38 (8 + 1) (.slice a n k) n us :: R)) : Imp L (setA s x :: R) := by
  subst hn; subst hu
  exact Imp.shutA (p := fun _ : Option Addr × Nat => True) (Ls := setL s x) (a, k) trivial h
def cumE (l : List Pkt) (i : Nat) : List UInt8 := (l.take i).flatMap (·.data)
theorem cumE_next {l : List Pkt} {i : Nat} (h : i < l.length) : cumE l (i + 1) = cumE l i ++ (gt l i).data := by
  unfold cumE; rw [List.take_add_one, gt_get h]; simp
theorem cumE_all (l : List Pkt) : cumE l l.length = l.flatMap (·.data) := by unfold cumE; rw [List.take_length]
theorem cumE_le (l : List Pkt) : ∀ i, (cumE l i).length ≤ (l.flatMap (·.data)).length := fun i => by
  unfold cumE
  have h : (l.flatMap (·.data)).length = ((l.take i).flatMap (·.data)).length + ((l.drop i).flatMap (·.data)).length := by rw [← List.length_append, ← List.flatMap_append, List.take_append_drop]
  omega
def contE (l : List Pkt) : Bool := (List.range l.length).all fun j => decide (plE (gt l j) = (cumE l j).length)
def wholeE (l : List Pkt) : Option Pkt := if contE l = true ∧ (gt l (l.length - 1)).more = false then some { (gt l 0) with off := 0, more := false, stay := false, data := l.flatMap (·.data) } else none
theorem whole_no {l : List Pkt} {i : Nat} (h : i < l.length) (h2 : plE (gt l i) ≠ (cumE l i).length) : wholeE l = none := by
  unfold wholeE
  rw [if_neg]
  rintro ⟨h3, -⟩
  unfold contE at h3
  rw [List.all_eq_true] at h3
  have := h3 i (List.mem_range.2 h)
  exact h2 (by simpa using this)
theorem whole_more {l : List Pkt} (h : (gt l (l.length - 1)).more = true) : wholeE l = none := by
  unfold wholeE; rw [if_neg]; rintro ⟨-, h3⟩; rw [h] at h3; cases h3
theorem whole_yes {l : List Pkt} (h : ∀ j, j < l.length → plE (gt l j) = (cumE l j).length) (h2 : (gt l (l.length - 1)).more = false) : wholeE l = some { (gt l 0) with off := 0, more := false, stay := false, data := l.flatMap (·.data) } := by
  have hc : contE l = true := by
    unfold contE
    rw [List.all_eq_true]
    intro j hj
    simpa using h j (List.mem_range.1 hj)
  unfold wholeE; rw [if_pos ⟨hc, h2⟩]
theorem Imp.bld0 {b : Nat} {l : List Pkt} {R : List Assn} : Imp (row 92 b [.pointer none, .slice none 0 0] :: R) (bldA b (cumE l 0) :: R) :=
  Imp.bld (l := []) (q := .pointer none) (a := none) (k := 0) (Imp.pull (.head _ _) (Imp.slN (Imp.refl _))) (.inl rfl)
instance {L R : List Assn} {b : Nat} {l : List UInt8} [hm : Fam bldA L b l R] : FnR Try.prog 51 [.pointer (some ⟨b, 0, none⟩)] L (fun kk => kk (.int .i64 (l.length : Nat)) (bldA b l :: R)) :=
  ⟨fun kk h => ⟨_, R, _, blen b l, .cons hm.h (.nil _), fun v L' hv => by rw [hv.1, hv.2]; exact h⟩⟩
instance {L R : List Assn} {b : Nat} {l s : List UInt8} [hm : Fam bldA L b l R] : FnR Try.prog 52 [.pointer (some ⟨b, 0, none⟩), str s] L (fun kk => Vc (l.length + s.length < 1000000000) (kk (asResult [.int .i64 (s.length : Nat), .nilIface]) (bldA b (l ++ s) :: R))) :=
  ⟨fun kk h => ⟨_, R, _, bwrite b l s h.l, .cons hm.h (.nil _), fun v L' hv => by rw [hv.1, hv.2]; exact h.r⟩⟩
instance {L R : List Assn} {b : Nat} {l : List UInt8} [hm : Fam bldA L b l R] : FnR Try.prog 53 [.pointer (some ⟨b, 0, none⟩)] L (fun kk => Vc (l ≠ [] ∧ l.length < 1000000000) (kk (str l) R)) :=
  ⟨fun kk h => ⟨_, R, _, bstring b l h.l.1 h.l.2, .cons hm.h (.nil _), fun v L' hv => by rw [hv.1, hv.2]; exact h.r⟩⟩
def insE (p : Pkt) : List Pkt → List Pkt
  | [] => [p]
  | q :: l => if plE p < plE q then p :: q :: l else q :: insE p l
theorem insE_len (p : Pkt) : ∀ l : List Pkt, (insE p l).length = l.length + 1
  | [] => rfl
  | q :: l => by unfold insE; split <;> simp [insE_len p l]
theorem insE_perm (p : Pkt) : ∀ l : List Pkt, (insE p l).Perm (p :: l)
  | [] => .refl _
  | q :: l => by
    unfold insE; split
    · exact .refl _
    · exact ((insE_perm p l).cons q).trans (.swap p q l)
theorem insE_sorted (p : Pkt) : ∀ {l : List Pkt}, l.Pairwise (fun a b => a.off < b.off) → (∀ q ∈ l, q.off ≠ p.off) → (insE p l).Pairwise (fun a b => a.off < b.off)
  | [], _, _ => by simp [insE]
  | q :: l, h, hne => by
    rw [List.pairwise_cons] at h
    unfold insE plE; split
    · rename_i hlt
      rw [List.pairwise_cons]
      refine ⟨?_, List.pairwise_cons.2 h⟩
      intro y hy
      rcases List.mem_cons.1 hy with rfl | hy
      · omega
      · have := h.1 y hy; omega
    · rename_i hlt
      have hq := hne q (List.mem_cons_self ..)
      rw [List.pairwise_cons]
      refine ⟨?_, insE_sorted p h.2 (fun y hy => hne y (List.mem_cons_of_mem _ hy))⟩
      intro y hy
      rcases List.mem_cons.1 ((insE_perm p l).mem_iff.1 hy) with rfl | hy
      · omega
      · exact h.1 y hy
theorem ins_eq {p : Pkt} {l l' : List Pkt} (hp : l'.Perm (l ++ [p])) (hs : l'.Pairwise (fun x y => x.off ≤ y.off)) (h : l.Pairwise (fun a b => a.off < b.off)) (hne : ∀ q ∈ l, q.off ≠ p.off) : l' = insE p l := by
  have hi := insE_sorted p h hne
  have hpp : l'.Perm (insE p l) := hp.trans ((List.perm_append_comm (l₁ := l) (l₂ := [p])).trans (insE_perm p l).symm)
  have hd : ∀ a ∈ insE p l, ∀ b ∈ insE p l, a.off = b.off → a = b := by
    intro a ha b hb hab
    obtain ⟨i, hi1, rfl⟩ := List.getElem_of_mem ha
    obtain ⟨j, hj1, rfl⟩ := List.getElem_of_mem hb
    rw [List.pairwise_iff_getElem] at hi
    rcases Nat.lt_trichotomy i j with hij | hij | hij
    · have := hi i j hi1 hj1 hij; omega
    · subst hij; rfl
    · have := hi j i hj1 hi1 hij; omega
  exact List.Perm.eq_of_pairwise (le := fun x y => x.off ≤ y.off) (fun a b ha hb h1 h2 => hd a (hpp.mem_iff.1 ha) b hb (Nat.le_antisymm h1 h2)) hs (hi.imp Nat.le_of_lt) hpp
def addE (x : PSet) (p : Pkt) : PSet × Nat := if x.l.any (dupE p) then (x, 0) else if x.l.any (parE p) then (x, 181) else ({ x with l := insE p x.l }, 0)
theorem add_d {x : PSet} {p : Pkt} (h : x.l.any (dupE p) = true) : addE x p = (x, 0) := by unfold addE; rw [if_pos h]
theorem add_o {x : PSet} {p : Pkt} (h : x.l.any (dupE p) = false) (h2 : x.l.any (parE p) = true) : addE x p = (x, 181) := by unfold addE; rw [if_neg (by simp [h]), if_pos h2]
theorem add_n {x : PSet} {p : Pkt} (h : x.l.any (dupE p) = false) (h2 : x.l.any (parE p) = false) : addE x p = ({ x with l := insE p x.l }, 0) := by unfold addE; rw [if_neg (by simp [h]), if_neg (by simp [h2])]
theorem add28 (s : Nat) (x : PSet) (p : Pkt) (hp : p.ok) (hn : x.l.length < 100000) (hall : ∀ q ∈ x.l, q.ok) (hsr : x.l.Pairwise (fun a b => a.off < b.off)) (hdis : x.l.any (parE p) = false → ∀ q ∈ x.l, q.off ≠ p.off) :
    Sat Try.prog 28 [.pointer (some ⟨s, 0, none⟩), .agg (pktV p).toArray] [setA s x] (fun u L' => u = .int .i64 ((addE x p).2 : Nat) ∧ L' = [setA s (addE x p).1]) := by
  refine Sat.openA1 ?_
  rintro ⟨a, k⟩ -
  dsimp only [setL] at *
  all_goals
    refine Sat.enter Try.func28 rfl Try.ntmps28 rfl (fun c R => ?_)
    try simp only [List.cons_append, List.nil_append]
    repeat' (first
      | exact ⟨hp, hall, rfl, by omega⟩
      | (rw [add_d (by assumption)]; exact Fini.of ⟨rfl, rfl⟩ (Imp.set (by first | rfl | assumption | (simp; done)) (by first | rfl | exact rfl) (by repeat first | exact Imp.refl _ | (apply Imp.pull; focus ((repeat first | exact Del.head _ _ | apply Del.tail); done)) | apply Imp.drop)))
      | (rw [add_o (by assumption) (by assumption)]; exact Fini.of ⟨rfl, rfl⟩ (Imp.set (by first | rfl | assumption | (simp; done)) (by first | rfl | exact rfl) (by repeat first | exact Imp.refl _ | (apply Imp.pull; focus ((repeat first | exact Del.head _ _ | apply Del.tail); done)) | apply Imp.drop)))
      | (have he := ins_eq ‹List.Perm _ _› ‹List.Pairwise _ _› hsr (hdis (by assumption)); subst he; rw [add_n (by assumption) (by assumption)]; exact Fini.of ⟨rfl, rfl⟩ (Imp.set (insE_len _ _) rfl (by repeat first | exact Imp.refl _ | (apply Imp.pull; focus ((repeat first | exact Del.head _ _ | apply Del.tail); done)) | apply Imp.drop)))
      | refine T.pl 5 [6, 7, 10] (.p 0 (.p 1 (.p 2 (.d 5 (.p 3 (.b2 4 (.n 6 (.n 7 (.p 8 (.d 9 (.n 10 .fin))))) 6 (.d 4 (.n 7 (.p 8 (.d 9 (.n 10 .fin))))))))))) ?_
      | refine And.intro (fun hc => ?_) (fun hc => ?_)
      | refine And.intro ?_ ?_
      | intro b
      | refine stp ?_
      | refine TQ.finC ?_
      | refine TQ.finC2 ?_
      | refine TQ.finC3 ?_
      | refine ⟨fun hc => ?_, fun hc => ?_⟩
      | refine Ei.f ?_
      | refine ⟨?_, ?_⟩
      | intro b
      | exact absurd rfl hc
      | exact absurd hc (by decide)
      | exact absurd rfl hc
      | exact absurd hc (by decide)
      | omega
      | (dsimp only; omega)
      | (rw [List.length_append]; rfl)
      | fail)
theorem whole29 (s : Nat) (x : PSet) (h0 : 0 < x.l.length) (hn : x.l.length < 100000) (hall : ∀ q ∈ x.l, q.ok) (hd : ∀ q ∈ x.l, q.data ≠ []) (hs : (x.l.flatMap (·.data)).length < 1000000000) :
    Sat Try.prog 29 [.pointer (some ⟨s, 0, none⟩)] [setA s x] (fun u L' => u = asResult [.agg (pktV ((wholeE x.l).getD zP)).toArray, .bool (wholeE x.l).isSome] ∧ L' = [setA s x]) := by
  refine Sat.openA1 ?_
  rintro ⟨a, k⟩ -
  dsimp only [setL] at *
  all_goals
    refine Sat.enter Try.func29 rfl Try.ntmps29 rfl (fun c R => ?_)
    try simp only [List.cons_append, List.nil_append]
    repeat' (first
      | (refine T.atB 0 ?_; obtain ⟨b4, hb4⟩ : ∃ x, x = b := ⟨_, rfl⟩; subst hb4; obtain ⟨b2, hb2⟩ : ∃ x, x = b := ⟨_, rfl⟩; subst hb2; refine T.ent (Ent.imp (Imp.bld0 (l := x.l))) ?_; refine T.lpa 0 [(0, _), (2, _), (3, _), (4, _), (11, _), (12, _)] (0 : Nat) (fun i => [(13, .int .i64 (i : Nat))]) (fun i => [bldA b4 (cumE x.l i), row 38 b2 [.int .u32 0, .int .u32 0, .int .u8 0, .int .u8 0, .int .u16 0, .bool false, .bool false, .int .u16 0, .string { data := #[] }], row 70 s [.slice a x.l.length k, .int .u64 x.til], Pw.sl 38 (8 + 1) (.slice a x.l.length k) x.l.length (x.l.flatMap pktV)]) (fun i => i ≤ x.l.length ∧ ∀ j, j < i → plE (gt x.l j) = (cumE x.l j).length) (fun i => x.l.length - i) ⟨Nat.zero_le _, fun j hj => absurd hj (Nat.not_lt_zero j)⟩ ?_; rintro i g ⟨hi, hj⟩; have hq : i < x.l.length → (gt x.l i).ok := (fun h => hall _ (gt_memP h)); have hcl := cumE_le x.l i; have hcl2 : i < x.l.length → (cumE x.l i).length + (gt x.l i).data.length ≤ (x.l.flatMap (·.data)).length := (fun h => by rw [← List.length_append, ← cumE_next h]; exact cumE_le x.l (i + 1)); have hcm : i < x.l.length → plE (gt x.l i) ≤ 524280 := (fun h => by have := (hq h).off; unfold plE; omega); simp only [List.cons_append, List.nil_append, appR])
      | (refine TQ.atL ?_; rw [← cumE_next (by assumption)]; refine TQ.rda (i + 1 : Nat) ⟨by omega, fun j h => (by rcases Nat.lt_or_eq_of_le (Nat.le_of_lt_succ h) with h | h; exact hj j h; rw [h]; exact Decidable.not_not.1 (by assumption))⟩ ?_)
      | (refine T.atR 9 ?_; obtain rfl : i = x.l.length := (by omega); rw [cumE_all]; have hne : x.l.flatMap (·.data) ≠ [] := (by intro h; rw [List.flatMap_eq_nil_iff] at h; exact hd _ (gt_memP h0) (h _ (gt_memP h0))))
      | exact hq (by assumption)
      | (rw [whole_no (by assumption) (by assumption)]; exact Fini.of ⟨rfl, rfl⟩ (Imp.set (by first | rfl | assumption | (simp; done)) (by first | rfl | exact rfl) (by repeat first | exact Imp.refl _ | (apply Imp.pull; focus ((repeat first | exact Del.head _ _ | apply Del.tail); done)) | apply Imp.drop)))
      | (rw [whole_more (by assumption)]; exact Fini.of ⟨rfl, rfl⟩ (Imp.set (by first | rfl | assumption | (simp; done)) (by first | rfl | exact rfl) (by repeat first | exact Imp.refl _ | (apply Imp.pull; focus ((repeat first | exact Del.head _ _ | apply Del.tail); done)) | apply Imp.drop)))
      | (rw [whole_yes hj (by assumption)]; exact Fini.of ⟨rfl, rfl⟩ (Imp.set (by first | rfl | assumption | (simp; done)) (by first | rfl | exact rfl) (by repeat first | exact Imp.refl _ | (apply Imp.pull; focus ((repeat first | exact Del.head _ _ | apply Del.tail); done)) | apply Imp.drop)))
      | refine T.pl 9 [] (.p 0 (.p 1 (.p 4 (.p 5 (.d 2 (.d 3 (.d 6 (.d 7 (.p 8 (.p 9 (.d 10 (.d 11 (.d 12 .fin))))))))))))) ?_
      | refine And.intro (fun hc => ?_) (fun hc => ?_)
      | refine And.intro ?_ ?_
      | intro b
      | refine stp ?_
      | refine TQ.finC ?_
      | refine TQ.finC2 ?_
      | refine TQ.finC3 ?_
      | refine ⟨fun hc => ?_, fun hc => ?_⟩
      | refine Ei.f ?_
      | refine ⟨?_, ?_⟩
      | intro b
      | exact absurd rfl hc
      | exact absurd hc (by decide)
      | exact absurd rfl hc
      | exact absurd hc (by decide)
      | omega
      | (dsimp only; omega)
      | (rw [List.length_append]; rfl)
      | fail)

end Go.Proofs.Ytmhkmcoobpfkcaa

