/- Lemmas for the proofs of this seat: no statement of the seat is claimed here. -/
import Derived.Test.YtmhkmcoobpfkcaaSd
import Derived.Test.YtmhkmcoobpfkcaaSa
import Derived.Test.YtmhkmcoobpfkcaaKp
import Derived.Test.YtmhkmcoobpfkcaaKm
import Derived.Test.YtmhkmcoobpfkcaaKo
set_option linter.all false

namespace Pw
open Go
/-! Reads that are held (LkA, LkB) for elements of slices and for inputs; guarded reads. -/
section
variable {L R K : List Assn}
instance {t e : TypeId} {a : Option Addr} {o n k sz : Nat} {xs : List Value} [h : ElAt L a e sz n k xs R] : LkA (.load t (.pointer (eA a o))) L (sl e sz (.slice a n k) n xs) R := ⟨h.h⟩
instance (priority := 1100) {t e : TypeId} {a : Option Addr} {o n k sz : Nat} {xs : List Value} : LkB (.load t (.pointer (eA a o))) (lk (sl e sz (.slice a n k) n xs) :: K) (sl e sz (.slice a n k) n xs) := ⟨_, .head _ _⟩
class OldDel (L : List Assn) (h : outParam (Array Obj)) (R : outParam (List Assn)) : Prop where h : Del (old h) L R
instance (priority := 1100) {L : List Assn} {h : Array Obj} : OldDel (old h :: L) h L := ⟨.head _ _⟩
instance {A : Assn} {L R : List Assn} {h : Array Obj} [k : OldDel L h R] : OldDel (A :: L) h (A :: R) := ⟨.tail k.h⟩
instance (priority := 100) {t : TypeId} {p : Value} {h : Array Obj} [k : OldDel L h R] : LkA (.load t p) L (old h) R := ⟨k.h⟩
instance (priority := 100) {t : TypeId} {p : Value} {h : Array Obj} : LkB (.load t p) (lk (old h) :: K) (old h) := ⟨_, .head _ _⟩
end
class InpP (a : Option Addr) (sz n k : outParam Nat) : Prop where h : 0 < n → ∃ b o, a = some ⟨b, o, none⟩
theorem inp_at {hp : Array Obj} {a : Option Addr} {sz n k : Nat} {xs : List Value} (hI : Inp hp sz n (.slice a n k) xs) (hn : 0 < n) : ∃ b o, a = some ⟨b, o, none⟩ := by
  obtain ⟨_, _, a', cap, hv, h1 | ⟨b, o, ha, _⟩⟩ := hI
  · omega
  · cases hv; exact ⟨b, o, ha⟩
instance (priority := 1200) {P : Program} {x : Int} {t e : TypeId} {a : Option Addr} {n m i sz sz' n' m' : Nat} {k : IntKind} [ht : Und P t (.slice e)] [hz : Sz P e sz] [hI : InpP a sz' n' m'] [h1 : Nn x i] : Pu P (.indexAddr t (.slice a n m) (.int k x)) (fun q => Vc (n = n' ∧ m = m' ∧ sz' = sz + 1 ∧ i < n) (q (.pointer (eA a (i * sz'))))) :=
  ⟨fun E d op ty pos af g hs q hq => by
    cases hs with | indexAddr e1 e2 =>
    rw [h1.h] at e2
    obtain ⟨⟨rfl, rfl, rfl, hi⟩, hq⟩ := hq
    obtain ⟨b, o, rfl⟩ := hI.h (by omega)
    exact ⟨_, DP.ias e1 e2 ht.h hz.h hi, hq⟩⟩
instance (priority := 1200) {P : Program} {t ft : TypeId} {a : Option Addr} {j k fo n m q sz j' : Nat} {fs : List Field} {nm tg pk : String} {em : Bool} {bo : Nat} [ht : Und P t (.struct fs.toArray)] [hf : GL fs k ⟨nm, ft, fo, em, tg, pk, bo⟩] [hz : Sz P ft m] [hI : InpP a sz n q] [hj : FoA j fo j'] : Pu P (.fieldAddr t (.pointer (eA a j)) k) (fun z => Vc (0 < n) (z (.pointer (eA a j')))) :=
  ⟨fun E d op ty pos af g hs z hq => by
    cases hs with | fieldAddr e1 =>
    obtain ⟨b, o, rfl⟩ := hI.h hq.l
    rw [eA_some] at e1
    refine ⟨_, DP.fa fo e1 ht.h (by have := hf.h; simpa using this) rfl hz.h, ?_⟩
    have e : (eA (some ⟨b, o, none⟩) j') = some ⟨b, (o + j) + fo, none⟩ := by rw [eA_some, ← hj.h, Nat.add_assoc]
    rw [← e]; exact hq.r⟩
namespace LkG
theorem okg_g {ops : Array Oper} {ns : List Nat} {i : Nat} {s : Sci} (listed : Array Bool) (h : okSci ops ns (.g i s) listed = true) : okTake ops listed i = true ∧ ns.contains i = false ∧ ((∀ w : World, True) ∨ ∀ j ∈ ns, listed.getD j true = false → Anc ops i j) ∧ okSci ops ns s (listed.setIfInBounds i true) = true := by
  simp only [okSci, Bool.and_eq_true, Bool.not_eq_true'] at h
  exact ⟨h.1.1, h.1.2, .inl fun _ => trivial, h.2⟩
section
variable {P : Program} {r : Rd} {c : Ctx} {K : List Assn} {ns : List Nat} {ops : Array Oper} {Q : Exit → Env → Rd → World → Prop} {L : List Assn} {nt : Nat} {l : List (Nat × Value)} {gb : Nat → Value} {ds : Nat} {op : Op} {ty : TypeId} {pos : String} {af : Array Edge} {j i : Nat} {want : Bool} {s : Sci} {ro : RO} {W : (Value → Prop) → Prop}
theorem s1y {A : Assn} (ho : ops[i]? = some ⟨some ds, op, ty, pos, af, some (j, want)⟩) (hy : Env.yl ⟨nt, l, gb⟩ ops j = some want) (hr : rsv ⟨nt, l, gb⟩ op = ro) [hA : LkB ro K A] [h : Re P c [A] ro W] (k : W (fun v => US P r c ns ops Q K s L ⟨nt, (ds, v) :: l, gb⟩)) : US P r c ns ops Q K (.g i s) L ⟨nt, l, gb⟩ := by
  obtain ⟨v, hd, hk⟩ := h.go _ (some ds) op ty pos af (some (j, want)) (rsv_ok hr) _ k
  obtain ⟨R, hR⟩ := hA.h
  unfold D at hd
  exact US.takeK ho hR (.inl ⟨by show Region.wanted _ (Go.yielded ops (Env.act ⟨nt, l, gb⟩).tmps) = true; rw [Env.wanted rfl hy]; simp, hd.1, fun w hw => by rw [Env.acd_eval]; exact hd.2 w hw⟩) hk
theorem s0y {A : Assn} {R : List Assn} (ho : ops[i]? = some ⟨some ds, op, ty, pos, af, some (j, want)⟩) (hy : Env.yl ⟨nt, l, gb⟩ ops j = some want) (hr : rsv ⟨nt, l, gb⟩ op = ro) [hA : LkA ro L A R] [hR : ImC R K] [h : Re P c [A] ro W] (k : W (fun v => US P r c ns ops Q (lk A :: K) s (lk A :: R) ⟨nt, (ds, v) :: l, gb⟩)) : US P r c ns ops Q K (.g i s) L ⟨nt, l, gb⟩ := by
  obtain ⟨v, hd, hk⟩ := h.go _ (some ds) op ty pos af (some (j, want)) (rsv_ok hr) _ k
  unfold D at hd
  exact US.takeS ho hA.h hR.h (.inl ⟨by show Region.wanted _ (Go.yielded ops (Env.act ⟨nt, l, gb⟩).tmps) = true; rw [Env.wanted rfl hy]; simp, hd.1, fun w hw => by rw [Env.acd_eval]; exact hd.2 w hw⟩) hk
theorem gn {b : Bool} (ho : ops[i]? = some ⟨some ds, op, ty, pos, af, some (j, want)⟩) (hy : Env.yl ⟨nt, l, gb⟩ ops j = some b) (hb : (b == want) = false) (k : US P r c ns ops Q K s L ⟨nt, (ds, undef) :: l, gb⟩) : US P r c ns ops Q K (.g i s) L ⟨nt, l, gb⟩ :=
  US.take (S0 := fun _ => True) ho rfl (fun listed h => okg_g listed h) (fun _ _ => trivial) (.inr ⟨by show Region.wanted _ (Go.yielded ops (Env.act ⟨nt, l, gb⟩).tmps) = false; rw [Env.wanted rfl hy]; exact hb, rfl⟩) k
theorem gu (ho : ops[i]? = some ⟨some ds, op, ty, pos, af, some (j, want)⟩) (hy : Env.yl ⟨nt, l, gb⟩ ops j = none) (k : US P r c ns ops Q K s L ⟨nt, (ds, undef) :: l, gb⟩) : US P r c ns ops Q K (.g i s) L ⟨nt, l, gb⟩ :=
  US.take (S0 := fun _ => True) ho rfl (fun listed h => okg_g listed h) (fun _ _ => trivial) (.inr ⟨Env.wantedN rfl hy, rfl⟩) k
end
theorem stkg {G G' : Prop} (k : G') (h : G' → G := by
  first
  | exact fun k => LkG.s1y rfl rfl (by conv => lhs; whnf) k
  | exact fun k => LkG.s0y rfl rfl (by conv => lhs; whnf) k
  | exact fun k => LkG.gn rfl rfl rfl k
  | exact fun k => LkG.gu rfl rfl k) : G := h k
end LkG
end Pw


namespace Go.Proofs.Ytmhkmcoobpfkcaa
open Go Pw
set_option maxRecDepth 20000
set_option maxHeartbeats 4000000
set_option synthInstance.maxHeartbeats 400000
set_option synthInstance.maxSize 4000
set_option maxHeartbeats 4000000

/-- A piece of one of the texts. -/
structure Pc (D : List (List UInt8)) (q : Pkt) : Prop where
  src : q.src = 1
  dst : q.dst = 2
  proto : q.proto = 6
  ttl : q.ttl = 5
  stay : q.stay = false
  id : q.id < D.length
  ne : 0 < q.data.length
  le : enE q ≤ (gt D q.id).length
  dt : q.data = ((gt D q.id).drop (plE q)).take q.data.length
  mo : q.more = decide (enE q < (gt D q.id).length)
  m8 : q.more = true → q.data.length % 8 = 0
/-- Pieces that cut the texts. -/
structure Cut (D : List (List UInt8)) (P : List Pkt) : Prop where
  pc : ∀ q ∈ P, Pc D q
  ap : ∀ q ∈ P, ∀ q' ∈ P, q.id = q'.id → q = q' ∨ enE q ≤ plE q' ∨ enE q' ≤ plE q
  cov : ∀ i, i < D.length → ∀ a, a < (gt D i).length → ∃ q ∈ P, q.id = i ∧ plE q ≤ a ∧ a < enE q
  nl : D.length ≤ 8
  dl : ∀ i, i < D.length → (gt D i).length ≤ 8192
abbrev kyI (i : Nat) : Ky := (1, 2, 6, i)
theorem Pc.key {D : List (List UInt8)} {q : Pkt} (h : Pc D q) : keyE q = kyI q.id := by unfold keyE; rw [h.src, h.dst, h.proto]
theorem Pc.ok {D : List (List UInt8)} {q : Pkt} (h : Pc D q) (hn : D.length ≤ 8) (hd : (gt D q.id).length ≤ 8192) : q.ok := by
  have h1 := h.le; have h2 := h.id
  unfold enE at h1
  exact ⟨by rw [h.src]; decide, by rw [h.dst]; decide, by rw [h.proto]; decide, by rw [h.ttl]; decide, by omega, by omega, by omega⟩
theorem Pc.may {D : List (List UInt8)} {q : Pkt} (h : Pc D q) (hd : (gt D q.id).length ≤ 8192) : mayE q = 0 := by
  unfold mayE
  have h1 := h.ne; have h2 := h.le
  rw [if_neg, if_neg (by omega)]
  rintro (h3 | ⟨h3, h4⟩)
  · rw [h3] at h1; exact absurd h1 (by decide)
  · exact h4 (h.m8 h3)
/-- The packet of a text. -/
def pkI (D : List (List UInt8)) (i : Nat) : Pkt := ⟨1, 2, 6, 5, i, false, false, 0, gt D i⟩
theorem take_drop_app {l : List UInt8} {a b : Nat} : l.take a ++ (l.drop a).take b = l.take (a + b) := by rw [List.take_add]
theorem pl_pos {q : Pkt} : plE q ≤ enE q := Nat.le_add_right _ _
section
variable {D : List (List UInt8)} {P : List Pkt} {l : List Pkt} {i : Nat}
theorem gt_mem' {l : List Pkt} {j : Nat} (h : j < l.length) : gt l j ∈ l := gt_memP h
/-- What stands ahead of a place where all fits is the text's beginning. -/
theorem cum_take (hl : ∀ q ∈ l, Pc D q ∧ q.id = i) : ∀ n, n ≤ l.length → (∀ j, j < n → plE (gt l j) = (cumE l j).length) → cumE l n = (gt D i).take (cumE l n).length
  | 0, _, _ => rfl
  | n + 1, hn, h => by
    have ih := cum_take hl n (by omega) (fun j hj => h j (by omega))
    have hq := hl _ (gt_mem' (show n < l.length by omega))
    have hp := h n (by omega)
    rw [cumE_next (by omega), List.length_append, ← take_drop_app]
    have e1 := hq.1.dt
    rw [hq.2, hp] at e1
    rw [← ih, ← e1]
theorem cont_all (h : contE l = true) : ∀ j, j < l.length → plE (gt l j) = (cumE l j).length := by
  unfold contE at h
  rw [List.all_eq_true] at h
  intro j hj
  simpa using h j (List.mem_range.2 hj)
theorem whole_is (hl : ∀ q ∈ l, Pc D q ∧ q.id = i) (h0 : 0 < l.length) {w : Pkt} (h : wholeE l = some w) : w = pkI D i := by
  unfold wholeE at h
  split at h
  · rename_i hc
    obtain ⟨hc, hm⟩ := hc
    have ha := cont_all hc
    have h1 := cum_take hl l.length (Nat.le_refl _) ha
    rw [cumE_all] at h1
    have hq := hl _ (gt_mem' (show l.length - 1 < l.length by omega))
    have hq0 := hl _ (gt_mem' h0)
    have e2 : (l.flatMap (·.data)).length = enE (gt l (l.length - 1)) := by
      have := cumE_next (l := l) (i := l.length - 1) (by omega)
      rw [show l.length - 1 + 1 = l.length by omega, cumE_all] at this
      rw [this, List.length_append, ← ha _ (by omega)]; rfl
    have e3 : ¬ enE (gt l (l.length - 1)) < (gt D i).length := by
      have := hq.1.mo
      rw [hm, hq.2] at this
      simpa using this.symm
    have e4 := hq.1.le
    rw [hq.2] at e4
    cases h
    unfold pkI
    dsimp only
    rw [h1, e2, List.take_of_length_le (by omega), hq0.1.src, hq0.1.dst, hq0.1.proto, hq0.1.ttl, hq0.2]
  · cases h
theorem sort_lt (hs : l.Pairwise (fun a b => a.off < b.off)) {j m : Nat} (h : j < m) (hm : m < l.length) : (gt l j).off < (gt l m).off := by
  rw [List.pairwise_iff_getElem] at hs
  have := hs j m (by omega) hm h
  unfold gt
  simpa [List.getD_eq_getElem?_getD, List.getElem?_eq_getElem hm, List.getElem?_eq_getElem (show j < l.length by omega)] using this
theorem mem_gt {q : Pkt} (h : q ∈ l) : ∃ j, j < l.length ∧ gt l j = q := by
  obtain ⟨j, hj, rfl⟩ := List.getElem_of_mem h
  refine ⟨j, hj, ?_⟩
  unfold gt
  simp [List.getD_eq_getElem?_getD, List.getElem?_eq_getElem hj]
/-- Pieces apart, by rising places: each ends ahead of the next. -/
theorem sort_ap (hC : Cut D P) (hl : ∀ q ∈ l, q ∈ P ∧ q.id = i) (hs : l.Pairwise (fun a b => a.off < b.off)) {j m : Nat} (h : j < m) (hm : m < l.length) : enE (gt l j) ≤ plE (gt l m) := by
  have h1 := sort_lt hs h hm
  have hj := hl _ (gt_mem' (show j < l.length by omega))
  have hq := hl _ (gt_mem' hm)
  have h3 : plE (gt l j) < plE (gt l m) := by unfold plE; omega
  have h4 := pl_pos (q := gt l j)
  have h5 := pl_pos (q := gt l m)
  rcases hC.ap _ hj.1 _ hq.1 (hj.2.trans hq.2.symm) with h2 | h2 | h2
  · rw [h2] at h1; omega
  · exact h2
  · omega
theorem whole_some (hC : Cut D P) (hi : i < D.length) (hl : ∀ q ∈ l, q ∈ P ∧ q.id = i) (hall : ∀ q ∈ P, q.id = i → q ∈ l) (h0 : 0 < l.length) (hs : l.Pairwise (fun a b => a.off < b.off)) : wholeE l ≠ none := by
  have key : ∀ c, c < (gt D i).length → ∃ m, m < l.length ∧ plE (gt l m) ≤ c ∧ c < enE (gt l m) := by
    intro c hc
    obtain ⟨q, hq, hqi, h1, h2⟩ := hC.cov i hi c hc
    obtain ⟨m, hm, rfl⟩ := mem_gt (hall q hq hqi)
    exact ⟨m, hm, h1, h2⟩
  have hle : ∀ m, m < l.length → enE (gt l m) ≤ (gt D i).length := by
    intro m hm
    have h1 := hl _ (gt_mem' hm)
    have := (hC.pc _ h1.1).le
    rw [h1.2] at this; exact this
  have hne : ∀ m, m < l.length → plE (gt l m) < enE (gt l m) := by
    intro m hm
    have h1 := hl _ (gt_mem' hm)
    have := (hC.pc _ h1.1).ne
    unfold plE enE; omega
  -- all fits
  have hb : ∀ n, n < l.length → plE (gt l n) = (cumE l n).length := by
    intro n
    induction n with
    | zero =>
      intro hn
      show _ = 0
      apply Decidable.byContradiction
      intro h1
      have h2 := hle 0 hn
      have h3 := hne 0 hn
      obtain ⟨m, hm, h4, h5⟩ := key 0 (by omega)
      rcases Nat.eq_zero_or_pos m with rfl | hm0
      · omega
      · have := sort_ap hC hl hs hm0 hm; omega
    | succ n ih =>
      intro hn
      have ih := ih (by omega)
      have e1 : (cumE l (n + 1)).length = enE (gt l n) := by
        rw [cumE_next (by omega), List.length_append, ← ih]; rfl
      rw [e1]
      have h1 := sort_ap hC hl hs (show n < n + 1 by omega) hn
      apply Decidable.byContradiction
      intro h2
      have h3 := hle _ hn
      have h4 := hne _ hn
      obtain ⟨m, hm, h5, h6⟩ := key (enE (gt l n)) (by omega)
      rcases Nat.lt_trichotomy m (n + 1) with h7 | h7 | h7
      · rcases Nat.lt_or_eq_of_le (Nat.le_of_lt_succ h7) with h8 | h8
        · have := sort_ap hC hl hs h8 (by omega)
          have := hne n (by omega); omega
        · subst h8; omega
      · subst h7; omega
      · have := sort_ap hC hl hs h7 hm; omega
  have hm : (gt l (l.length - 1)).more = false := by
    have h1 := hl _ (gt_mem' (show l.length - 1 < l.length by omega))
    rw [(hC.pc _ h1.1).mo, h1.2]
    apply decide_eq_false
    intro h2
    obtain ⟨m, hm, h5, h6⟩ := key _ h2
    rcases Nat.lt_or_ge m (l.length - 1) with h7 | h7
    · have := sort_ap hC hl hs h7 (by omega)
      have := hne (l.length - 1) (by omega); omega
    · have : m = l.length - 1 := by omega
      subst this; omega
  rw [whole_yes hb hm]
  exact Option.some_ne_none _
end
/-- Where one stands: what is told and what is left. -/
structure WhI (D : List (List UInt8)) (P : List Pkt) (S : List PSet) (told left : List Pkt) : Prop where
  ss : SsOk S
  lf : ∀ q ∈ left, q ∈ P
  st : ∀ x ∈ S, 100 ≤ x.til ∧ ∃ i, x.key = kyI i ∧ i < D.length ∧ i ∉ told.map (·.id) ∧ ∀ q ∈ x.l, q ∈ P ∧ q.id = i ∧ ¬ (q.more = false ∧ q.off = 0)
  td : ∀ t ∈ told, t.id < D.length ∧ 0 < (gt D t.id).length ∧ t = pkI D t.id
  nd : (told.map (·.id)).Nodup
  lt : ∀ q ∈ left, q.id ∉ told.map (·.id)
  ac : ∀ q ∈ P, q.id ∈ told.map (·.id) ∨ q ∈ left ∨ ∃ x ∈ S, q ∈ x.l
theorem WhI.exp {D : List (List UInt8)} {P : List Pkt} {S : List PSet} {told left : List Pkt} (h : WhI D P S told left) {now : Nat} (hn : now < 100) : expE S now = S := by
  unfold expE
  rw [List.filter_eq_self]
  intro x hx
  have := (h.st x hx).1
  simp; omega
theorem nodup_le {n : Nat} : ∀ {l : List Nat}, l.Nodup → (∀ x ∈ l, x < n) → l.length ≤ n := by
  induction n with
  | zero => intro l _ h2; cases l with
    | nil => exact Nat.le_refl _
    | cons a l => exact absurd (h2 a (List.mem_cons_self ..)) (Nat.not_lt_zero _)
  | succ n ih =>
    intro l h1 h2
    have h3 : (l.erase n).Nodup := h1.sublist List.erase_sublist
    have h4 := ih h3 (fun x hx => by
      have h5 := h2 x (List.mem_of_mem_erase hx)
      have h6 : x ≠ n := fun e => by subst e; exact (List.Nodup.not_mem_erase h1) hx
      omega)
    have h5 : l.length ≤ (l.erase n).length + 1 := by rw [List.length_erase]; split <;> omega
    omega
theorem WhI.len {D : List (List UInt8)} {P : List Pkt} {S : List PSet} {told left : List Pkt} (h : WhI D P S told left) : S.length ≤ D.length := by
  have h1 : (S.map fun x => x.key.2.2.2).Nodup := by
    have hn := h.ss.nd
    have h2 : (S.map PSet.key).Pairwise (fun a b => a.2.2.2 ≠ b.2.2.2) := by
      refine List.Pairwise.imp_of_mem ?_ hn
      intro a b ha hb hab e
      obtain ⟨x, hx, rfl⟩ := List.mem_map.1 ha
      obtain ⟨y, hy, rfl⟩ := List.mem_map.1 hb
      obtain ⟨_, i, h3, _⟩ := h.st x hx
      obtain ⟨_, j, h4, _⟩ := h.st y hy
      rw [h3, h4] at hab e
      exact hab (by rw [show i = j from e])
    rw [List.pairwise_map] at h2
    unfold List.Nodup
    rw [List.pairwise_map]
    exact h2
  have h2 := nodup_le (n := D.length) h1 (fun y hy => by
    obtain ⟨x, hx, rfl⟩ := List.mem_map.1 hy
    obtain ⟨_, i, h3, h4, _⟩ := h.st x hx
    rw [h3]; exact h4)
  rwa [List.length_map] at h2
/-- What is left, once a piece was taken. -/
def leftE (left : List Pkt) (i : Nat) (twice is : Bool) (id : Nat) : List Pkt :=
  if is then left.filter (fun q => decide (q.id ≠ id)) else if twice then left else left.eraseIdx i
theorem mem_erase {l : List Pkt} {i : Nat} {q : Pkt} (h : q ∈ l) : q = gt l i ∨ q ∈ l.eraseIdx i := by
  obtain ⟨j, hj, rfl⟩ := mem_gt h
  by_cases hij : j = i
  · subst hij; exact .inl rfl
  · right
    rw [List.mem_eraseIdx_iff_getElem?]
    exact ⟨j, hij, by rw [gt_get hj]⟩
/-- A packet that is whole. -/
theorem WhI.told {D : List (List UInt8)} {P : List Pkt} {S S' : List PSet} {told left : List Pkt} {q : Pkt} (hC : Cut D P) (h : WhI D P S told left) (hq : q ∈ left) (hS : ∀ x, x ∈ S' → x ∈ S ∧ x.key ≠ keyE q) (hS2 : ∀ x ∈ S, x.key ≠ keyE q → x ∈ S') (hss : SsOk S') : WhI D P S' (told ++ [pkI D q.id]) (left.filter (fun p => decide (p.id ≠ q.id))) := by
  have hqP := hC.pc _ (h.lf _ hq)
  have hid : (pkI D q.id).id = q.id := rfl
  have htold : ∀ i, i ∈ (told ++ [pkI D q.id]).map (·.id) ↔ i ∈ told.map (·.id) ∨ i = q.id := by
    intro i; rw [List.map_append, List.mem_append]; simp [hid]
  refine ⟨hss, fun p hp => h.lf p (List.mem_filter.1 hp).1, ?_, ?_, ?_, ?_, ?_⟩
  · intro x hx
    obtain ⟨h1, h2⟩ := hS x hx
    obtain ⟨h3, i, h4, h5, h6, h7⟩ := h.st x h1
    refine ⟨h3, i, h4, h5, ?_, h7⟩
    rw [htold]
    rintro (h8 | h8)
    · exact h6 h8
    · exact h2 (by rw [h4, hqP.key, h8])
  · intro t ht
    rcases List.mem_append.1 ht with ht | ht
    · exact h.td t ht
    · simp at ht; subst ht
      have h1 := hqP.le; have h2 := hqP.ne
      exact ⟨hqP.id, by rw [hid]; unfold enE at h1; omega, rfl⟩
  · rw [List.map_append, List.nodup_append]
    refine ⟨h.nd, by simp, ?_⟩
    intro a ha b hb
    simp [hid] at hb; subst hb
    intro e; subst e
    exact h.lt q hq ha
  · intro p hp
    obtain ⟨h1, h2⟩ := List.mem_filter.1 hp
    rw [htold]
    rintro (h3 | h3)
    · exact h.lt p h1 h3
    · simp at h2; exact h2 h3
  · intro p hp
    rw [htold]
    by_cases hpi : p.id = q.id
    · exact .inl (.inr hpi)
    · rcases h.ac p hp with h1 | h1 | ⟨x, h1, h2⟩
      · exact .inl (.inl h1)
      · exact .inr (.inl (List.mem_filter.2 ⟨h1, by simpa using hpi⟩))
      · refine .inr (.inr ⟨x, hS2 x h1 ?_, h2⟩)
        intro h3
        have h4 := (h.ss.all x h1).ky p h2
        rw [h3, (hC.pc _ hp).key, hqP.key] at h4
        exact hpi (by simpa [kyI] using h4)
/-- A piece that was put by. -/
theorem WhI.kept {D : List (List UInt8)} {P : List Pkt} {S S' : List PSet} {told left : List Pkt} {i : Nat} {tw : Bool} {y : PSet} (hC : Cut D P) (h : WhI D P S told left) (hi : i < left.length) (hss : SsOk S') (hS : ∀ x, x ∈ S' → x = y ∨ x ∈ S) (hy : y ∈ S') (hS2 : ∀ x ∈ S, x ∈ S' ∨ ∀ q ∈ x.l, q ∈ y.l) (hyt : 100 ≤ y.til) (hyk : y.key = keyE (gt left i)) (hyl : ∀ q ∈ y.l, q ∈ P ∧ q.id = (gt left i).id ∧ ¬ (q.more = false ∧ q.off = 0)) (hyq : gt left i ∈ y.l) : WhI D P S' told (leftE left i tw false 0) := by
  have hqm : gt left i ∈ left := gt_memP hi
  have hqP := hC.pc _ (h.lf _ hqm)
  have hsub : ∀ q ∈ leftE left i tw false 0, q ∈ left := by
    intro q hq
    unfold leftE at hq
    cases tw with
    | true => exact hq
    | false => exact List.mem_of_mem_eraseIdx hq
  refine ⟨hss, fun p hp => h.lf p (hsub p hp), ?_, h.td, h.nd, fun q hq => h.lt q (hsub q hq), ?_⟩
  · intro x hx
    rcases hS x hx with rfl | hx
    · exact ⟨hyt, (gt left i).id, by rw [hyk, hqP.key], hqP.id, h.lt _ hqm, hyl⟩
    · exact h.st x hx
  · intro p hp
    rcases h.ac p hp with h1 | h1 | ⟨x, h1, h2⟩
    · exact .inl h1
    · rcases mem_erase (i := i) h1 with h3 | h3
      · exact .inr (.inr ⟨y, hy, by rw [h3]; exact hyq⟩)
      · refine .inr (.inl ?_)
        unfold leftE
        cases tw with
        | true => exact h1
        | false => exact h3
    · rcases hS2 x h1 with h3 | h3
      · exact .inr (.inr ⟨x, h3, h2⟩)
      · exact .inr (.inr ⟨y, hy, h3 p h2⟩)

theorem put_sub {S : List PSet} {k : Ky} {y x : PSet} (h : x ∈ putS S k y) : x = y ∨ x ∈ S := by
  unfold putS at h
  cases hf : findS S k with
  | some z =>
    rw [hf] at h
    obtain ⟨u, hu, rfl⟩ := List.mem_map.1 h
    by_cases hk : u.key = k
    · simp [hk]
    · simp [hk, hu]
  | none =>
    rw [hf] at h
    rcases List.mem_append.1 h with h | h
    · exact .inr h
    · simp at h; exact .inl h
theorem put_in {S : List PSet} {k : Ky} {y : PSet} : y ∈ putS S k y := by
  unfold putS
  cases hf : findS S k with
  | some z =>
    obtain ⟨h1, h2⟩ := find_mem hf
    exact List.mem_map.2 ⟨z, h1, by simp [h2]⟩
  | none => simp
theorem put_old {S : List PSet} {k : Ky} {y x : PSet} (h : x ∈ S) : x ∈ putS S k y ∨ x.key = k := by
  by_cases hk : x.key = k
  · exact .inr hk
  · left
    unfold putS
    cases hf : findS S k with
    | some z => exact List.mem_map.2 ⟨x, h, by simp [hk]⟩
    | none => simp [h]
theorem key_one {S : List PSet} (hS : SsOk S) {x y : PSet} (hx : x ∈ S) (hy : y ∈ S) (h : x.key = y.key) : x = y := by
  obtain ⟨i, hi, rfl⟩ := List.getElem_of_mem hx
  obtain ⟨j, hj, rfl⟩ := List.getElem_of_mem hy
  have := (List.getElem_inj (xs := S.map PSet.key) (h₀ := by simpa using hi) (h₁ := by simpa using hj) hS.nd).1 (by simpa using h)
  subst this; rfl
theorem Pc.eq {D : List (List UInt8)} {p q : Pkt} (hp : Pc D p) (hq : Pc D q) (hi : p.id = q.id) (ho : p.off = q.off) (hd : p.data = q.data) (hm : p.more = q.more) : p = q :=
  pkt_ext ⟨hp.src.trans hq.src.symm, hp.dst.trans hq.dst.symm, hp.proto.trans hq.proto.symm, hp.ttl.trans hq.ttl.symm, hi, hp.stay.trans hq.stay.symm, hm, ho, hd⟩
/-- Two pieces of a text are the same or go together. -/
theorem pc_par {D : List (List UInt8)} {P : List Pkt} {p q : Pkt} (hC : Cut D P) (hp : p ∈ P) (hq : q ∈ P) (hi : p.id = q.id) (hne : p ≠ q) : parE p q = false := by
  have h1 := hC.pc _ hp; have h2 := hC.pc _ hq
  have h3 := h1.ne; have h4 := h2.ne; have h5 := h1.le; have h6 := h2.le
  have h7 := h1.mo; have h8 := h2.mo
  have hap := (hC.ap _ hp _ hq hi).resolve_left hne
  rw [hi] at h5 h7
  have e1 : enE p = plE p + p.data.length := rfl
  have e2 : enE q = plE q + q.data.length := rfl
  unfold parE behE
  rw [h7, h8]
  generalize (gt D q.id).length = n at *
  generalize enE p = a at *
  generalize enE q = b at *
  generalize plE p = c at *
  generalize plE q = d at *
  simp only [Bool.or_eq_false_iff, Bool.and_eq_false_iff, Bool.not_eq_false', decide_eq_false_iff_not, decide_eq_true_eq]
  omega
theorem fin_wh {D : List (List UInt8)} {P : List Pkt} {S : List PSet} {told left : List Pkt} {i : Nat} {x : PSet} (hC : Cut D P) (h : WhI D P S told left) (hi : i < left.length) (hno : ¬ ((gt left i).more = false ∧ (gt left i).off = 0)) (hss : SsOk (finS S (keyE (gt left i)) x (gt left i)).1) (hx : ∀ q ∈ x.l, q ∈ P ∧ q.id = (gt left i).id ∧ ¬ (q.more = false ∧ q.off = 0)) (hxt : 100 ≤ x.til) (hxw : x.l ≠ [] → wholeE x.l = none) (hS2 : ∀ y ∈ S, y.key = keyE (gt left i) → y = x) :
    (finS S (keyE (gt left i)) x (gt left i)).2.2.2 = 0 ∧ ((finS S (keyE (gt left i)) x (gt left i)).2.2.1 = true → (finS S (keyE (gt left i)) x (gt left i)).2.1 = pkI D (gt left i).id ∧ WhI D P (finS S (keyE (gt left i)) x (gt left i)).1 (told ++ [pkI D (gt left i).id]) (left.filter (fun p => decide (p.id ≠ (gt left i).id)))) ∧ ((finS S (keyE (gt left i)) x (gt left i)).2.2.1 = false → ∀ tw, WhI D P (finS S (keyE (gt left i)) x (gt left i)).1 told (leftE left i tw false 0)) := by
  have hqm : gt left i ∈ left := gt_memP hi
  generalize hq : gt left i = q at *
  have hqP := h.lf _ hqm
  have hqc := hC.pc _ hqP
  by_cases hd : x.l.any (dupE q) = true
  · obtain ⟨p, hp, hpd⟩ := List.any_eq_true.1 hd
    have hpq : p = q := by
      unfold dupE at hpd
      simp only [Bool.and_eq_true, decide_eq_true_eq, beq_iff_eq] at hpd
      exact Pc.eq (hC.pc _ (hx p hp).1) hqc (hx p hp).2.1 hpd.1.1 hpd.1.2 hpd.2
    subst hpq
    have ha : addE x p = (x, 0) := add_d hd
    have hw := hxw (List.ne_nil_of_mem hp)
    have hf := fin_no (S := S) (k := keyE p) (x := x) (p := p) (by rw [ha]; simp) (by rw [ha]; exact hw)
    rw [hf, ha] at hss ⊢
    refine ⟨rfl, (fun h => Bool.noConfusion h), fun _ tw => ?_⟩
    have hk : x.key = keyE p := by
      have h1 := hx _ (gt0_mem (l := x.l) (List.length_pos_of_mem hp))
      show keyE (gt x.l 0) = _
      rw [(hC.pc _ h1.1).key, hqc.key, h1.2.1]
    subst hq
    exact h.kept hC hi hss (fun y hy => put_sub hy) put_in (fun y hy => (put_old hy).imp id (fun hk q hq => by rw [← hS2 y hy hk]; exact hq)) hxt hk hx hp
  · have hd : x.l.any (dupE q) = false := by simpa using hd
    have hnm : ∀ p ∈ x.l, p ≠ q := by
      rintro p hp rfl
      rw [List.any_eq_false] at hd
      exact hd p hp (by simp [dupE])
    have hp : x.l.any (parE q) = false := by
      rw [List.any_eq_false]
      intro p hp
      rw [pc_par hC hqP (hx p hp).1 (hx p hp).2.1.symm (fun e => hnm p hp e.symm)]
      simp
    have ha := add_n hd hp
    have hmem : ∀ p, p ∈ insE q x.l ↔ p = q ∨ p ∈ x.l := fun p => by rw [(insE_perm q x.l).mem_iff, List.mem_cons]
    have hl2 : ∀ p ∈ insE q x.l, p ∈ P ∧ p.id = q.id ∧ ¬ (p.more = false ∧ p.off = 0) := by
      intro p hp
      rcases (hmem p).1 hp with rfl | hp
      · exact ⟨hqP, rfl, hno⟩
      · exact hx p hp
    have h0 : 0 < (insE q x.l).length := by rw [insE_len]; omega
    cases hw : wholeE (insE q x.l) with
    | some w =>
      have hf := fin_yes (S := S) (k := keyE q) (x := x) (p := q) (w := w) (by rw [ha]; simp) (by rw [ha]; exact hw)
      rw [hf] at hss ⊢
      refine ⟨rfl, fun _ => ⟨?_, ?_⟩, (fun h => Bool.noConfusion h)⟩
      · exact whole_is (i := q.id) (fun p hp => ⟨hC.pc _ (hl2 p hp).1, (hl2 p hp).2.1⟩) h0 hw
      · exact h.told hC hqm (fun y hy => by obtain ⟨h1, h2⟩ := List.mem_filter.1 hy; exact ⟨h1, by simpa using h2⟩) (fun y h1 h2 => List.mem_filter.2 ⟨h1, by simpa using h2⟩) hss
    | none =>
      have hf := fin_no (S := S) (k := keyE q) (x := x) (p := q) (by rw [ha]; simp) (by rw [ha]; exact hw)
      rw [hf] at hss ⊢
      refine ⟨rfl, (fun h => Bool.noConfusion h), fun _ tw => ?_⟩
      rw [ha] at hss ⊢
      have hk : PSet.key { x with l := insE q x.l } = keyE q := by
        have h1 := hl2 _ (gt0_mem h0)
        show keyE (gt (insE q x.l) 0) = _
        rw [(hC.pc _ h1.1).key, hqc.key, h1.2.1]
      subst hq
      exact h.kept hC hi hss (fun y hy => put_sub hy) put_in (fun y hy => (put_old hy).imp id (fun hk p hp => by rw [hS2 y hy hk] at hp; exact (hmem p).2 (.inr hp))) hxt hk hl2 ((hmem _).2 (.inl rfl))
theorem wh_take {D : List (List UInt8)} {P : List Pkt} {S : List PSet} {told left : List Pkt} {i now : Nat} (hC : Cut D P) (h : WhI D P S told left) (hi : i < left.length) (hn : now < 100) :
    (takeE 32 100 S (gt left i) now).2.2.2 = 0 ∧ ((takeE 32 100 S (gt left i) now).2.2.1 = true → (takeE 32 100 S (gt left i) now).2.1 = pkI D (gt left i).id ∧ WhI D P (takeE 32 100 S (gt left i) now).1 (told ++ [pkI D (gt left i).id]) (left.filter (fun p => decide (p.id ≠ (gt left i).id)))) ∧ ((takeE 32 100 S (gt left i) now).2.2.1 = false → ∀ tw, WhI D P (takeE 32 100 S (gt left i) now).1 told (leftE left i tw false 0)) := by
  have hqm : gt left i ∈ left := gt_memP hi
  have hqP := h.lf _ hqm
  have hqc := hC.pc _ hqP
  have hdl := hC.dl _ hqc.id
  have hE := h.exp hn
  have hsk := ss_take (most := 32) (life := 100) (now := now) h.ss (hqc.ok hC.nl hdl) (by decide)
  by_cases h1 : (gt left i).more = false ∧ (gt left i).off = 0
  · rw [tk_own (by omega) h1.1 h1.2, hE] at hsk ⊢
    refine ⟨rfl, fun _ => ?_, (fun h => Bool.noConfusion h)⟩
    have h2 := hqc.mo
    rw [h1.1] at h2
    have h3 : ¬ enE (gt left i) < (gt D (gt left i).id).length := by simpa using h2.symm
    have h4 := hqc.le
    have h5 : plE (gt left i) = 0 := by unfold plE; omega
    have h6 : (gt left i).data = gt D (gt left i).id := by
      have := hqc.dt
      rw [h5, List.drop_zero] at this
      rw [this]
      exact List.take_of_length_le (by unfold enE at h3 h4; unfold plE at h5; omega)
    refine ⟨pkt_ext ⟨hqc.src, hqc.dst, hqc.proto, hqc.ttl, rfl, hqc.stay, h1.1, h1.2, h6⟩, ?_⟩
    refine h.told hC hqm (fun x hx => ⟨hx, ?_⟩) (fun x hx _ => hx) hsk
    intro hk
    obtain ⟨_, j, hj, _, _, hl⟩ := h.st x hx
    have hg := hl _ (gt0_mem (h.ss.all x hx).ne)
    have hij : j = (gt left i).id := by rw [hj, hqc.key] at hk; simpa [kyI] using hk
    have hgc := hC.pc _ hg.1
    have h7 := hgc.ne; have h8 := hgc.le
    have e1 : enE (gt x.l 0) = plE (gt x.l 0) + (gt x.l 0).data.length := rfl
    rw [hg.2.1, hij] at h8
    rcases hC.ap _ hg.1 _ hqP (hg.2.1.trans hij) with h9 | h9 | h9
    · rw [h9] at hg; exact hg.2.2 h1
    · omega
    · omega
  · have hm := hqc.may hdl
    cases hf : findS S (keyE (gt left i)) with
    | some x =>
      obtain ⟨hx, hk⟩ := find_mem hf
      rw [tk_some (by omega) h1 (by omega) (by rw [hE]; exact hf), hE] at hsk ⊢
      obtain ⟨ht, j, hj, _, _, hl⟩ := h.st x hx
      have hij : j = (gt left i).id := by rw [hj, hqc.key] at hk; simpa [kyI] using hk
      subst hij
      exact fin_wh hC h hi h1 hsk hl ht (fun _ => (h.ss.all x hx).nw) (fun y hy hky => key_one h.ss hy hx (hky.trans hk.symm))
    | none =>
      have hlen := h.len
      have hnl := hC.nl
      rw [tk_new (by omega) h1 (by omega) (by rw [hE]; exact hf) (by rw [hE]; omega), hE] at hsk ⊢
      refine fin_wh hC h hi h1 hsk (fun q hq => (List.not_mem_nil hq).elim) (by dsimp only; omega) (fun h => absurd rfl h) (fun y hy hky => ?_)
      unfold findS at hf
      rw [List.find?_eq_none] at hf
      exact absurd (by simpa using hky) (hf y hy)
/-- In the end: all is told, and nothing waits. -/
theorem wh_end {D : List (List UInt8)} {P : List Pkt} {S : List PSet} {told : List Pkt} (hC : Cut D P) (h : WhI D P S told []) : S = [] ∧ ∀ i, i < D.length → 0 < (gt D i).length → pkI D i ∈ told := by
  have hS : S = [] := by
    cases S with
    | nil => rfl
    | cons x S =>
      exfalso
      have hx : x ∈ x :: S := List.mem_cons_self ..
      obtain ⟨ht, i, hk, hi, hnt, hl⟩ := h.st x hx
      have hxo := h.ss.all x hx
      refine whole_some hC hi (fun q hq => ⟨(hl q hq).1, (hl q hq).2.1⟩) ?_ hxo.ne hxo.srt hxo.nw
      intro q hq hqi
      rcases h.ac q hq with h1 | h1 | ⟨y, h1, h2⟩
      · rw [hqi] at h1; exact absurd h1 hnt
      · exact (List.not_mem_nil h1).elim
      · have h3 := (h.ss.all y h1).ky q h2
        have : y = x := key_one h.ss h1 hx (by rw [← h3, (hC.pc _ hq).key, hk, hqi])
        subst this; exact h2
  refine ⟨hS, fun i hi h0 => ?_⟩
  obtain ⟨q, hq, hqi, _⟩ := hC.cov i hi 0 h0
  subst hS
  rcases h.ac q hq with h1 | h1 | ⟨y, h1, _⟩
  · obtain ⟨t, ht, hti⟩ := List.mem_map.1 h1
    have := (h.td t ht).2.2
    rw [hti, hqi] at this
    rw [← this]; exact ht
  · exact (List.not_mem_nil h1).elim
  · exact (List.not_mem_nil h1).elim
theorem wh_start {D : List (List UInt8)} {P : List Pkt} (hC : Cut D P) : WhI D P [] [] P :=
  ⟨⟨List.nodup_nil, fun _ h => (List.not_mem_nil h).elim⟩, fun _ h => h, fun _ h => (List.not_mem_nil h).elim, fun _ h => (List.not_mem_nil h).elim, List.nodup_nil, fun _ _ h => (List.not_mem_nil h).elim, fun q hq => .inr (.inl hq)⟩

end Go.Proofs.Ytmhkmcoobpfkcaa


namespace Go.Proofs.Ytmhkmcoobpfkcaa
open Go Pw
set_option maxRecDepth 20000
set_option maxHeartbeats 4000000
set_option synthInstance.maxHeartbeats 400000
set_option synthInstance.maxSize 4000
set_option maxHeartbeats 4000000

/-- Pieces of the texts ahead of text i, and of text i up to a place. -/
structure CutI (D : List (List UInt8)) (i at_ : Nat) (P : List Pkt) : Prop where
  pc : ∀ q ∈ P, Pc D q
  ap : ∀ q ∈ P, ∀ q' ∈ P, q.id = q'.id → q = q' ∨ enE q ≤ plE q' ∨ enE q' ≤ plE q
  cv : ∀ j, j < i → ∀ a, a < (gt D j).length → ∃ q ∈ P, q.id = j ∧ plE q ≤ a ∧ a < enE q
  cw : ∀ a, a < at_ → ∃ q ∈ P, q.id = i ∧ plE q ≤ a ∧ a < enE q
  up : ∀ q ∈ P, q.id < i ∨ q.id = i ∧ enE q ≤ at_
  ln : P.length ≤ 8192 * i + at_
  a8 : at_ < (gt D i).length → at_ % 8 = 0
def pcE (D : List (List UInt8)) (i at_ size : Nat) : Pkt := ⟨1, 2, 6, 5, i, false, decide (at_ + size < (gt D i).length), at_ / 8, ((gt D i).drop at_).take size⟩
section
variable {D : List (List UInt8)} {P : List Pkt} {i at_ : Nat}
theorem CutI.start : CutI D 0 0 [] := ⟨fun _ h => (List.not_mem_nil h).elim, fun _ h => (List.not_mem_nil h).elim, fun _ h => absurd h (Nat.not_lt_zero _), fun _ h => absurd h (Nat.not_lt_zero _), fun _ h => (List.not_mem_nil h).elim, Nat.le_refl _, fun _ => rfl⟩
theorem pcE_len {size : Nat} (hle : at_ + size ≤ (gt D i).length) : (pcE D i at_ size).data.length = size := by
  show (((gt D i).drop at_).take size).length = size
  rw [List.length_take, List.length_drop]; omega
theorem CutI.step (h : CutI D i at_ P) {size : Nat} (hi : i < D.length) (h0 : 0 < size) (hle : at_ + size ≤ (gt D i).length) (h8 : at_ + size < (gt D i).length → size % 8 = 0) : CutI D i (at_ + size) (P ++ [pcE D i at_ size]) := by
  have ha := h.a8 (by omega)
  have hl := pcE_len hle
  have hpl : plE (pcE D i at_ size) = at_ := by show 8 * (at_ / 8) = at_; omega
  have hen : enE (pcE D i at_ size) = at_ + size := by show plE _ + _ = _; rw [hpl, hl]
  have hnew : Pc D (pcE D i at_ size) := ⟨rfl, rfl, rfl, rfl, rfl, hi, by omega, by rw [hen]; exact hle, by rw [hpl, hl]; rfl, by rw [hen]; rfl, fun hm => by rw [hl]; exact h8 (by simpa [pcE] using hm)⟩
  refine ⟨?_, ?_, ?_, ?_, ?_, ?_, ?_⟩
  · intro q hq
    rcases List.mem_append.1 hq with hq | hq
    · exact h.pc q hq
    · simp at hq; subst hq; exact hnew
  · intro q hq q' hq' he
    rcases List.mem_append.1 hq with hq | hq
    · rcases List.mem_append.1 hq' with hq' | hq'
      · exact h.ap q hq q' hq' he
      · simp at hq'; subst hq'
        right; left; rw [hpl]
        have : q.id = i := he
        rcases h.up q hq with h1 | h1
        · omega
        · exact h1.2
    · simp at hq; subst hq
      rcases List.mem_append.1 hq' with hq' | hq'
      · right; right; rw [hpl]
        have : i = q'.id := he
        rcases h.up q' hq' with h1 | h1
        · omega
        · exact h1.2
      · simp at hq'; subst hq'; exact .inl rfl
  · intro j hj a haj
    obtain ⟨q, hq, h1⟩ := h.cv j hj a haj
    exact ⟨q, List.mem_append_left _ hq, h1⟩
  · intro a haa
    by_cases h1 : a < at_
    · obtain ⟨q, hq, h1⟩ := h.cw a h1
      exact ⟨q, List.mem_append_left _ hq, h1⟩
    · exact ⟨_, List.mem_append_right _ (List.mem_singleton.2 rfl), rfl, by rw [hpl]; omega, by rw [hen]; exact haa⟩
  · intro q hq
    rcases List.mem_append.1 hq with hq | hq
    · rcases h.up q hq with h1 | h1
      · exact .inl h1
      · exact .inr ⟨h1.1, by omega⟩
    · simp at hq; subst hq; exact .inr ⟨rfl, by rw [hen]; exact Nat.le_refl _⟩
  · have := h.ln
    rw [List.length_append]; simp; omega
  · intro h1
    have := h8 h1; omega
theorem CutI.next (h : CutI D i at_ P) (hl : ¬ at_ < (gt D i).length) (hat : at_ ≤ (gt D i).length) (hd : (gt D i).length ≤ 8192) : CutI D (i + 1) 0 P := by
  refine ⟨h.pc, h.ap, ?_, fun _ h => absurd h (Nat.not_lt_zero _), ?_, ?_, fun _ => rfl⟩
  · intro j hj a ha
    rcases Nat.lt_or_eq_of_le (Nat.le_of_lt_succ hj) with h1 | h1
    · exact h.cv j h1 a ha
    · subst h1; exact h.cw a (by omega)
  · intro q hq
    rcases h.up q hq with h1 | h1
    · exact .inl (by omega)
    · exact .inl (by omega)
  · have := h.ln; omega
theorem CutI.fin (h : CutI D D.length 0 P) (hn : D.length ≤ 8) (hd : ∀ i, i < D.length → (gt D i).length ≤ 8192) : Cut D P := ⟨h.pc, h.ap, h.cv, hn, hd⟩
end
/-! What is left -/
def lfC (is : Bool) (pid i : Nat) (tw : Bool) (b : Nat) (q : Pkt) : Bool := (is && decide (q.id ≠ pid)) || (!is && (decide (b ≠ i) || tw))
def lfE (left : List Pkt) (is : Bool) (pid i : Nat) (tw : Bool) : Nat → List Pkt
  | 0 => []
  | n + 1 => lfE left is pid i tw n ++ (if lfC is pid i tw n (gt left n) then [gt left n] else [])
theorem lfE_len (left : List Pkt) (is : Bool) (pid i : Nat) (tw : Bool) : ∀ n, (lfE left is pid i tw n).length ≤ n
  | 0 => Nat.le_refl _
  | n + 1 => by
    have := lfE_len left is pid i tw n
    unfold lfE; split <;> simp <;> omega
theorem lfE_yes {left : List Pkt} {is tw : Bool} {pid i n : Nat} (h : lfC is pid i tw n (gt left n) = true) : lfE left is pid i tw n ++ [gt left n] = lfE left is pid i tw (n + 1) := by
  rw [lfE, h]; rfl
theorem lfE_no {left : List Pkt} {is tw : Bool} {pid i n : Nat} (h : lfC is pid i tw n (gt left n) = false) : lfE left is pid i tw n = lfE left is pid i tw (n + 1) := by
  rw [lfE, h]; simp
theorem lfE_is {left : List Pkt} {pid i : Nat} {tw : Bool} : ∀ n, n ≤ left.length → lfE left true pid i tw n = (left.take n).filter (fun q => decide (q.id ≠ pid))
  | 0, _ => rfl
  | n + 1, h => by
    rw [lfE, lfE_is n (by omega), List.take_add_one, gt_get (by omega), List.filter_append]
    congr 1
    by_cases hq : (gt left n).id = pid <;> simp [lfC, hq]
theorem lfE_tw {left : List Pkt} {pid i : Nat} : ∀ n, n ≤ left.length → lfE left false pid i true n = left.take n
  | 0, _ => rfl
  | n + 1, h => by
    rw [lfE, lfE_tw n (by omega), List.take_add_one, gt_get (by omega)]
    simp [lfC]
theorem erase_take {α : Type} {l : List α} {i n : Nat} (h : n ≤ i) : (l.take n).eraseIdx i = l.take n := List.eraseIdx_of_length_le (by rw [List.length_take]; omega)
theorem lfE_er {left : List Pkt} {pid i : Nat} : ∀ n, n ≤ left.length → lfE left false pid i false n = (left.take n).eraseIdx i
  | 0, _ => by simp [lfE]
  | n + 1, h => by
    have ih := lfE_er (left := left) (pid := pid) (i := i) n (by omega)
    have ht : left.take (n + 1) = left.take n ++ [gt left n] := by rw [List.take_add_one, gt_get (by omega)]; rfl
    rw [lfE, ih, ht]
    have hl : (left.take n).length = n := by rw [List.length_take]; omega
    rcases Nat.lt_trichotomy i n with h1 | h1 | h1
    · rw [List.eraseIdx_append_of_lt_length (by omega)]
      simp [lfC, show n ≠ i by omega]
    · subst h1
      rw [List.eraseIdx_append_of_length_le (by omega), erase_take (Nat.le_refl _), hl]
      simp [lfC]
    · rw [List.eraseIdx_append_of_length_le (by omega), erase_take (by omega)]
      have h2 : i - (left.take n).length ≠ 0 := by omega
      obtain ⟨m, hm⟩ := Nat.exists_eq_succ_of_ne_zero h2
      rw [hm]
      simp [lfC, show n ≠ i by omega]
theorem lf_left {left : List Pkt} {is tw : Bool} {pid i : Nat} : lfE left is pid i tw left.length = leftE left i tw is pid := by
  unfold leftE
  cases is with
  | true => rw [lfE_is _ (Nat.le_refl _), List.take_length]; rfl
  | false =>
    cases tw with
    | true => rw [lfE_tw _ (Nat.le_refl _), List.take_length]; rfl
    | false => rw [lfE_er _ (Nat.le_refl _), List.take_length]; rfl
/-! Counting -/
def cnt (told : List Pkt) (t : Pkt) (n : Nat) : Nat := ((told.take n).filter (fun q => decide (q = t))).length
theorem cnt_yes {told : List Pkt} {t : Pkt} {n : Nat} (h : n < told.length) (e : gt told n = t) : cnt told t (n + 1) = cnt told t n + 1 := by
  unfold cnt
  rw [List.take_add_one, gt_get h, List.filter_append, List.length_append]; simp [e]
theorem cnt_no {told : List Pkt} {t : Pkt} {n : Nat} (h : n < told.length) (e : ¬ gt told n = t) : cnt told t (n + 1) = cnt told t n := by
  unfold cnt
  rw [List.take_add_one, gt_get h, List.filter_append, List.length_append]; simp [e]
theorem cnt_le {told : List Pkt} {t : Pkt} {n : Nat} : cnt told t n ≤ told.length := by
  unfold cnt
  refine Nat.le_trans (List.length_filter_le _ _) ?_
  rw [List.length_take]; omega
theorem cnt_one {t : Pkt} : ∀ {told : List Pkt}, (told.map (·.id)).Nodup → t ∈ told → cnt told t told.length = 1
  | [], _, h => (List.not_mem_nil h).elim
  | a :: l, hn, h => by
    rw [List.map_cons, List.nodup_cons] at hn
    unfold cnt
    rw [List.take_length, List.filter_cons]
    by_cases ha : a = t
    · subst ha
      simp only [decide_true, if_true, List.length_cons]
      have : l.filter (fun q => decide (q = a)) = [] := by
        rw [List.filter_eq_nil_iff]
        intro q hq hqa
        simp at hqa; subst hqa
        exact hn.1 (List.mem_map_of_mem hq)
      rw [this]; rfl
    · simp only [ha, decide_false, Bool.false_eq_true, if_false]
      have := cnt_one hn.2 ((List.mem_cons.1 h).resolve_left (fun e => ha e.symm))
      unfold cnt at this
      rw [List.take_length] at this; exact this
def wantE (D : List (List UInt8)) (n : Nat) : Nat := ((List.range n).filter (fun i => decide (gt D i ≠ []))).length
theorem wantE_yes {D : List (List UInt8)} {n : Nat} (h : gt D n ≠ []) : wantE D (n + 1) = wantE D n + 1 := by
  unfold wantE; rw [List.range_succ, List.filter_append, List.length_append]; simp [h]
theorem wantE_no {D : List (List UInt8)} {n : Nat} (h : gt D n = []) : wantE D (n + 1) = wantE D n := by
  unfold wantE; rw [List.range_succ, List.filter_append, List.length_append]; simp [h]
theorem wantE_le {D : List (List UInt8)} {n : Nat} : wantE D n ≤ n := by
  unfold wantE
  refine Nat.le_trans (List.length_filter_le _ _) ?_
  rw [List.length_range]; exact Nat.le_refl _
theorem wh_count {D : List (List UInt8)} {P : List Pkt} {S : List PSet} {told : List Pkt} (hC : Cut D P) (h : WhI D P S told []) : told.length = wantE D D.length := by
  have h1 := (wh_end hC h).2
  have h2 : (told.map (·.id)).Perm ((List.range D.length).filter (fun i => decide (gt D i ≠ []))) := by
    rw [List.perm_ext_iff_of_nodup h.nd (List.nodup_range.sublist List.filter_sublist)]
    intro i
    rw [List.mem_filter, List.mem_range]
    constructor
    · intro hi
      obtain ⟨t, ht, rfl⟩ := List.mem_map.1 hi
      obtain ⟨h3, h4, _⟩ := h.td t ht
      exact ⟨h3, decide_eq_true (List.ne_nil_of_length_pos h4)⟩
    · rintro ⟨h3, h4⟩
      have h4 : gt D i ≠ [] := by simpa using h4
      exact List.mem_map.2 ⟨_, h1 i h3 (List.length_pos_iff.2 h4), rfl⟩
  have := h2.length_eq
  rwa [List.length_map] at this
theorem wh_found {D : List (List UInt8)} {P : List Pkt} {S : List PSet} {told : List Pkt} {i : Nat} (hC : Cut D P) (h : WhI D P S told []) (hi : i < D.length) (h0 : gt D i ≠ []) : cnt told (pkI D i) told.length = 1 :=
  cnt_one h.nd ((wh_end hC h).2 i hi (List.length_pos_iff.2 h0))

end Go.Proofs.Ytmhkmcoobpfkcaa


namespace Go.Proofs.Ytmhkmcoobpfkcaa
open Go Pw
set_option maxRecDepth 20000
set_option maxHeartbeats 4000000
set_option synthInstance.maxHeartbeats 400000
set_option synthInstance.maxSize 4000
set_option maxHeartbeats 8000000

abbrev strV (s : List UInt8) : List Value := [str s]
instance : FLen strV 1 := ⟨fun _ => rfl⟩
instance : FLen strV (0 + 1) := ⟨fun _ => rfl⟩
abbrev u8V (n : Nat) : List Value := [.int .u8 n]
instance : FLen u8V 1 := ⟨fun _ => rfl⟩
instance : FLen u8V (0 + 1) := ⟨fun _ => rfl⟩
abbrev u16V (n : Nat) : List Value := [.int .u16 n]
instance : FLen u16V 1 := ⟨fun _ => rfl⟩
instance : FLen u16V (0 + 1) := ⟨fun _ => rfl⟩
/-- The sum as the law reckons it. -/
def wsumD (D : List (List UInt8)) : Nat → Int
  | 0 => 0
  | i + 1 => IntKind.i64.wrap (wsumD D i + ((gt D i).length : Nat))
def sumB (D : List (List UInt8)) : Nat → Nat
  | 0 => 0
  | i + 1 => sumB D i + (gt D i).length
theorem sumB_le {D : List (List UInt8)} {i j : Nat} (h : j < i) : (gt D j).length ≤ sumB D i := by
  induction i with
  | zero => omega
  | succ i ih =>
    show _ ≤ sumB D i + _
    rcases Nat.lt_or_eq_of_le (Nat.le_of_lt_succ h) with h | h
    · have := ih h; omega
    · rw [h]; omega
theorem sumB_b {D : List (List UInt8)} (h : ∀ j, (gt D j).length ≤ 140737488351232) : ∀ i, sumB D i ≤ 140737488351232 * i
  | 0 => Nat.le_refl _
  | i + 1 => by have h1 := sumB_b h i; have h2 := h i; show sumB D i + _ ≤ _; omega
theorem wsumD_eq {D : List (List UInt8)} (h : ∀ j, (gt D j).length ≤ 140737488351232) : ∀ i, i ≤ 8 → wsumD D i = (sumB D i : Nat)
  | 0, _ => rfl
  | i + 1, hi => by
    have h1 := wsumD_eq h i (by omega)
    have h2 := sumB_b h i
    have h3 := h i
    show IntKind.i64.wrap (wsumD D i + _) = _
    rw [h1]
    have : (sumB D (i + 1) : Nat) = sumB D i + (gt D i).length := rfl
    rw [this]
    exact wrap_fits (by simp only [IntKind.fits, IntKind.lim, IntKind.signed, IntKind.bits, if_true]; omega)
instance (priority := 1200) {D : List (List UInt8)} {i : Nat} {y : Int} {t : TypeId} : Pu Try.prog (.bin .add t (.int .i64 (wsumD D i)) (.int .i64 y)) (fun q => q (.int .i64 (IntKind.i64.wrap (wsumD D i + y)))) :=
  ⟨fun E d op ty pos af g hr q hk => by cases hr with | bin e1 e2 => exact ⟨_, DP.addX e1 e2, hk⟩⟩
theorem piece_eq {D : List (List UInt8)} {i at_ size : Nat} {b : Bool} (hb : b = decide (at_ + size < (gt D i).length)) : [Value.int .u32 1, .int .u32 2, .int .u8 6, .int .u8 5, .int .u16 (i : Nat), .bool false, .bool b, .int .u16 (at_ / 8 : Nat), str (((gt D i).take (at_ + size)).drop at_)] = pktV (pcE D i at_ size) := by
  subst hb
  have : ((gt D i).take (at_ + size)).drop at_ = ((gt D i).drop at_).take size := by rw [List.drop_take]; congr 1; omega
  rw [this]; rfl
theorem flat_snoc (P : List Pkt) (q : Pkt) : P.flatMap pktV ++ pktV q = (P ++ [q]).flatMap pktV := by simp
theorem len_snoc (P : List Pkt) (q : Pkt) : P.length + 1 = (P ++ [q]).length := by simp
theorem imp_nil {L : List Assn} : Imp L (Pw.sl 38 (8 + 1) (.slice none ([] : List Pkt).length 0) ([] : List Pkt).length (([] : List Pkt).flatMap pktV) :: L) := Imp.slN (Imp.refl _)
theorem piece_eq2 {D : List (List UInt8)} {i at_ size : Nat} : (⟨1, 2, 6, 5, i, false, decide (at_ + size < (gt D i).length), at_ / 8, ((gt D i).take (at_ + size)).drop at_⟩ : Pkt) = pcE D i at_ size := by
  have : ((gt D i).take (at_ + size)).drop at_ = ((gt D i).drop at_).take size := by rw [List.drop_take]; congr 1; omega
  rw [this]; rfl
theorem left_len {left : List Pkt} {i id : Nat} {tw is : Bool} : (leftE left i tw is id).length ≤ left.length := by
  unfold leftE
  split
  · exact List.length_filter_le _ _
  · split
    · exact Nat.le_refl _
    · exact (List.eraseIdx_sublist _ _).length_le
theorem told_len {told : List Pkt} {p : Pkt} {is : Bool} : (if is then told ++ [p] else told).length ≤ told.length + 1 := by
  split <;> simp
theorem wh_next {D : List (List UInt8)} {P told left : List Pkt} {S1 : List PSet} {p1 : Pkt} {is1 : Bool} {i : Nat} (tw : Bool) (h1 : is1 = true → p1 = pkI D (gt left i).id ∧ WhI D P S1 (told ++ [pkI D (gt left i).id]) (left.filter (fun p => decide (p.id ≠ (gt left i).id)))) (h2 : is1 = false → ∀ tw, WhI D P S1 told (leftE left i tw false 0)) : WhI D P S1 (if is1 then told ++ [p1] else told) (leftE left i tw is1 p1.id) := by
  cases is1 with
  | true =>
    obtain ⟨rfl, h⟩ := h1 rfl
    exact h
  | false => exact h2 rfl tw
theorem vN {x y : Nat} (e : x = y) : Value.int .i64 (x : Int) = Value.int .i64 (y : Int) := by rw [e]
theorem imp_lf {left : List Pkt} {is tw : Bool} {pid i : Nat} {L : List Assn} : Imp L (Pw.sl 38 (8 + 1) (.slice none (lfE left is pid i tw 0).length 0) (lfE left is pid i tw 0).length ((lfE left is pid i tw 0).flatMap pktV) :: L) := Imp.slN (Imp.refl _)
theorem imp_nil0 {L : List Assn} : Imp L (Pw.sl 38 (8 + 1) (.slice none 0 0) 0 [] :: L) := Imp.slN (Imp.refl _)
attribute [local irreducible] takeE
theorem whole_spec (h : Array Obj) (D : List (List UInt8)) (cs os : List Nat) (a1 a2 a3 : Option Addr) (k1 k2 k3 : Nat) [hI1 : InpD h a1 (0 + 1) D.length k1 (D.flatMap strV)] [hI2 : InpD h a2 (0 + 1) cs.length k2 (cs.flatMap u8V)] [hI3 : InpD h a3 (0 + 1) os.length k3 (os.flatMap u16V)] (hD : ∀ j, (gt D j).length ≤ 140737488351232) (hcs : ∀ j, gt cs j < 256) (hos : ∀ j, gt os j < 65536) (hl1 : D.length < 4611686018427387904) (hl2 : cs.length < 4611686018427387904) (hl3 : os.length < 4611686018427387904) :
    Sat Try.prog 4 [.slice a1 D.length k1, .slice a2 cs.length k2, .slice a3 os.length k3] [old h] (fun u L' => u = .bool true ∧ L' = [old h]) := by
  all_goals
    refine Sat.enter Try.func4 rfl Try.ntmps4 rfl (fun c R => ?_)
    try simp only [List.cons_append, List.nil_append]
    repeat' (first
      | (refine T.atB 0 ?_; refine T.lpa 0 [(0, _), (1, _), (2, _)] (0 : Nat) (fun i => [(7, .int .i64 (wsumD D i)), (8, .int .i64 (i : Nat))]) (fun _ => []) (fun i => i ≤ D.length) (fun i => D.length - i) (Nat.zero_le _) ?_; rintro i g hi; have hdl := hD i; simp only [List.cons_append, List.nil_append, appR])
      | (refine T.atR 6 ?_; obtain rfl : i = D.length := (by omega); have hwq := fun h => wsumD_eq hD D.length h; have hgo : True := trivial)
      | (refine TQ.atL ?_; refine TQ.rda (i + 1 : Nat) (by omega) (by omega))
      | (refine T.atB 2 ?_; have hn8 : D.length ≤ 8 := (by omega); have hsz : ∀ j, j < D.length → (gt D j).length ≤ 8192 := (fun j hj => by have h1 := hwq hn8; have h2 := sumB_le (D := D) hj; omega); refine T.ent (Ent.imp imp_nil) ?_; refine T.lpa 2 [(0, _), (1, _), (2, _)] ((0, [], (none, 0)) : Nat × List Pkt × (Option Addr × Nat)) (fun z => [(9, .slice z.2.2.1 z.2.1.length z.2.2.2), (10, .int .i64 (z.2.1.length : Nat)), (11, .int .i64 (z.1 : Nat))]) (fun z => [Pw.sl 38 (8 + 1) (.slice z.2.2.1 (z.2.1).length z.2.2.2) (z.2.1).length ((z.2.1).flatMap pktV)]) (fun z => z.1 ≤ D.length ∧ CutI D z.1 0 z.2.1) (fun z => D.length - z.1) ⟨Nat.zero_le _, CutI.start⟩ ?_; rintro ⟨i, P, ⟨a4, k4⟩⟩ g ⟨hi, hcu⟩; dsimp only at hi hcu ⊢; simp only [List.cons_append, List.nil_append, appR])
      | (refine T.atB 4 ?_; refine T.lpa 4 [(0, _), (1, _), (2, _), (11, _)] ((0, P, (a4, k4)) : Nat × List Pkt × (Option Addr × Nat)) (fun z => [(9, .slice z.2.2.1 z.2.1.length z.2.2.2), (10, .int .i64 (z.2.1.length : Nat)), (12, .int .i64 (z.1 : Nat))]) (fun z => [Pw.sl 38 (8 + 1) (.slice z.2.2.1 (z.2.1).length z.2.2.2) (z.2.1).length ((z.2.1).flatMap pktV)]) (fun z => z.1 ≤ (gt D i).length ∧ CutI D i z.1 z.2.1) (fun z => (gt D i).length - z.1) ⟨Nat.zero_le _, hcu⟩ ?_; clear hcu; rintro ⟨at_, P1, ⟨a5, k5⟩⟩ g ⟨hat, hcu⟩; dsimp only at hat hcu ⊢; have hln := hcu.ln; have hsi := hsz i (by assumption); have ha8 := hcu.a8; have hcv := hcs P1.length; simp only [List.cons_append, List.nil_append, appR])
      | (refine T.atSR 20 ?_; refine T.cutR 20 (fun size : Nat => [(0, .slice a1 D.length k1), (1, .slice a2 cs.length k2), (2, .slice a3 os.length k3), (9, .slice a5 P1.length k5), (10, .int .i64 (P1.length + 1 : Nat)), (11, .int .i64 (i : Nat)), (12, .int .i64 (at_ : Nat)), (13, .int .i64 (size : Nat))]) (fun _ => Pw.sl 38 (8 + 1) (.slice a5 (P1).length k5) (P1).length ((P1).flatMap pktV) :: old h :: R) (fun size => 0 < size ∧ at_ + size ≤ (gt D i).length ∧ (at_ + size < (gt D i).length → size % 8 = 0)) ?_ (fun size g hs => ?_))
      | (refine TQ.atC ?_; refine TQ.cn _ rfl ⟨rfl, rfl, rfl, rfl, rfl, rfl, rfl, rfl, trivial⟩ (by omega) (Ent.imp (by repeat first | exact Imp.refl _ | (apply Imp.pull; focus ((repeat first | exact Del.head _ _ | apply Del.tail); done)) | apply Imp.drop)))
      | (refine TQ.atL ?_; rename_i a6; rw [piece_eq2, len_snoc P1 (pcE D i at_ size)]; refine TQ.rd ((at_ + size, P1 ++ [pcE D i at_ size], (a6, b)) : Nat × List Pkt × (Option Addr × Nat)) rfl ⟨rfl, rfl, rfl, rfl, rfl, rfl, rfl, trivial⟩ ⟨by dsimp only; omega, hcu.step (by assumption) hs.1 hs.2.1 hs.2.2⟩ (by dsimp only; omega) (Ent.imp (by repeat first | exact Imp.refl _ | (apply Imp.pull; focus ((repeat first | exact Del.head _ _ | apply Del.tail); done)) | apply Imp.drop)))
      | (refine TQ.atL ?_; refine TQ.rd ((i + 1, P1, (a5, k5)) : Nat × List Pkt × (Option Addr × Nat)) rfl ⟨rfl, rfl, rfl, rfl, rfl, rfl, trivial⟩ ⟨by dsimp only; omega, hcu.next (by assumption) hat hsi⟩ (by dsimp only; omega) (Ent.imp (by repeat first | exact Imp.refl _ | (apply Imp.pull; focus ((repeat first | exact Del.head _ _ | apply Del.tail); done)) | apply Imp.drop)))
      | (refine T.atR 27 ?_; clear hgo; have hln := hcu.ln; obtain ⟨r_, hr_⟩ : ∃ x, x = b := ⟨_, rfl⟩; subst hr_; have hCu : Cut D P := (by obtain rfl : i = D.length := (by omega); exact hcu.fin hn8 hsz); refine T.ent (Ent.imp imp_nil0) ?_)
      | (refine T.atB 6 ?_; rename_i la; obtain ⟨lk_, hlk_⟩ : ∃ x, x = b := ⟨_, rfl⟩; subst hlk_; rw [Nat.zero_add]; refine T.ent (Ent.imp (show Imp _ (Pw.sl 38 (8 + 1) (.slice la (P).length lk_) (P).length ((P).flatMap pktV) :: pcA r_ 32 100 [] :: old h :: R) from (by repeat first | exact Imp.refl _ | (apply Imp.pull; focus ((repeat first | exact Del.head _ _ | apply Del.tail); done)) | apply Imp.drop))) ?_; refine T.ent (Ent.imp imp_nil) ?_; refine T.lpa 6 [(0, _), (1, _), (2, _), (14, _)] ((0, [], [], (none, 0), P, (la, lk_)) : Nat × List PSet × List Pkt × (Option Addr × Nat) × List Pkt × (Option Addr × Nat)) (fun z => [(16, .slice z.2.2.2.1.1 z.2.2.1.length z.2.2.2.1.2), (17, .slice z.2.2.2.2.2.1 z.2.2.2.2.1.length z.2.2.2.2.2.2), (18, .int .i64 (z.1 : Nat))]) (fun z => [pcA r_ 32 100 z.2.1, Pw.sl 38 (8 + 1) (.slice z.2.2.2.1.1 (z.2.2.1).length z.2.2.2.1.2) (z.2.2.1).length ((z.2.2.1).flatMap pktV), Pw.sl 38 (8 + 1) (.slice z.2.2.2.2.2.1 (z.2.2.2.2.1).length z.2.2.2.2.2.2) (z.2.2.2.2.1).length ((z.2.2.2.2.1).flatMap pktV)]) (fun z => z.1 ≤ 1001 ∧ z.2.2.1.length ≤ z.1 ∧ z.2.2.2.2.1.length ≤ 65536 ∧ WhI D P z.2.1 z.2.2.1 z.2.2.2.2.1) (fun z => 1001 - z.1) ⟨Nat.zero_le _, Nat.le_refl _, by dsimp only; omega, wh_start hCu⟩ ?_; rintro ⟨k, S, told, ⟨ta, tk⟩, left, ⟨la, lk_⟩⟩ g ⟨hk, htl, hll, hWh⟩; dsimp only at hk htl hll hWh ⊢; have hg7 : True := trivial; have hg8 : True := trivial; have hgk := hos k; simp only [List.cons_append, List.nil_append, appR])
      | (refine T.atK (.tmp 153) ?_; refine T.cutC (.tmp 153) (fun z : Nat × Bool => [(0, .slice a1 D.length k1), (1, .slice a2 cs.length k2), (2, .slice a3 os.length k3), (14, .pointer (some ⟨r_, 0, none⟩)), (16, .slice ta told.length tk), (17, .slice la left.length lk_), (18, .int .i64 (k : Nat)), (19, .int .i64 (z.1 : Nat)), (20, .bool z.2)]) (fun _ => pcA r_ 32 100 S :: Pw.sl 38 (8 + 1) (.slice ta (told).length tk) (told).length ((told).flatMap pktV) :: Pw.sl 38 (8 + 1) (.slice la (left).length lk_) (left).length ((left).flatMap pktV) :: old h :: R) (fun z => z.1 < left.length) ?_ (fun z g hz => ?_))
      | (refine TQ.atC ?_; first | refine TQ.cn ((0, false) : Nat × Bool) rfl ⟨rfl, rfl, rfl, rfl, rfl, rfl, rfl, rfl, rfl, trivial⟩ (by dsimp only; omega) (Ent.imp (by repeat first | exact Imp.refl _ | (apply Imp.pull; focus ((repeat first | exact Del.head _ _ | apply Del.tail); done)) | apply Imp.drop)) | refine TQ.cn (_, _) rfl ⟨rfl, rfl, rfl, rfl, rfl, rfl, rfl, rfl, rfl, trivial⟩ (Nat.mod_lt _ (by omega)) (Ent.imp (by repeat first | exact Imp.refl _ | (apply Imp.pull; focus ((repeat first | exact Del.head _ _ | apply Del.tail); done)) | apply Imp.drop)))
      | (refine T.atR 36 ?_; clear hg7; obtain ⟨i7, tw⟩ := z; dsimp only at hz ⊢; have hqP := hCu.pc _ (hWh.lf _ (gt_memP hz)); have hpk := hqP.ok hCu.nl (hCu.dl _ hqP.id); have htk := wh_take (now := k % 50) hCu hWh hz (by omega))
      | (refine T.atR 37 ?_; clear hg8; obtain ⟨b21, hb21⟩ : ∃ x, x = b := ⟨_, rfl⟩; subst hb21; generalize takeE 32 100 S (gt left i7) (k % 50) = T1 at *; obtain ⟨S1, p1, is1, e1⟩ := T1; dsimp only at htk ⊢; obtain ⟨he1, hte, htf⟩ := htk; subst he1)
      | (refine T.atK (.tmp 182) ?_; refine T.cutC (.tmp 182) (fun z : List Pkt × (Option Addr × Nat) => [(0, .slice a1 D.length k1), (1, .slice a2 cs.length k2), (2, .slice a3 os.length k3), (14, .pointer (some ⟨r_, 0, none⟩)), (16, .slice z.2.1 z.1.length z.2.2), (17, .slice la left.length lk_), (18, .int .i64 (k : Nat)), (19, .int .i64 (i7 : Nat)), (20, .bool tw), (21, .pointer (some ⟨b21, 0, none⟩)), (22, .bool is1)]) (fun z => pcA r_ 32 100 S1 :: Pw.sl 38 (8 + 1) (.slice z.2.1 (z.1).length z.2.2) (z.1).length ((z.1).flatMap pktV) :: Pw.sl 38 (8 + 1) (.slice la (left).length lk_) (left).length ((left).flatMap pktV) :: row 38 b21 (pktV p1) :: old h :: R) (fun z => z.1 = if is1 then told ++ [p1] else told) ?_ (fun z g hz2 => ?_))
      | (refine TQ.atC ?_; first | (refine TQ.cn ((told, (ta, tk)) : List Pkt × (Option Addr × Nat)) rfl ⟨rfl, rfl, rfl, rfl, rfl, rfl, rfl, rfl, rfl, rfl, rfl, trivial⟩ (by rw [if_neg (by simp [*])]) (Ent.imp (by repeat first | exact Imp.refl _ | (apply Imp.pull; focus ((repeat first | exact Del.head _ _ | apply Del.tail); done)) | apply Imp.drop))) | (rename_i a6; rw [len_snoc told p1]; refine TQ.cn ((told ++ [p1], (a6, b)) : List Pkt × (Option Addr × Nat)) rfl ⟨rfl, rfl, rfl, rfl, rfl, rfl, rfl, rfl, rfl, rfl, rfl, trivial⟩ (by rw [if_pos (by assumption)]) (Ent.imp (by repeat first | exact Imp.refl _ | (apply Imp.pull; focus ((repeat first | exact Del.head _ _ | apply Del.tail); done)) | apply Imp.drop))))
      | (refine T.atB 8 ?_; obtain ⟨told2, ⟨ta2, tk2⟩⟩ := z; dsimp only at hz2 ⊢; refine T.ent (Ent.imp (imp_lf (left := left) (is := is1) (pid := p1.id) (i := i7) (tw := tw))) ?_; refine T.lpa 8 [(0, _), (1, _), (2, _), (14, _), (16, _), (17, _), (18, _), (19, _), (20, _), (21, _), (22, _)] ((0, (none, 0)) : Nat × (Option Addr × Nat)) (fun z => [(24, .slice z.2.1 (lfE left is1 p1.id i7 tw z.1).length z.2.2), (25, .int .i64 (z.1 : Nat))]) (fun z => [Pw.sl 38 (8 + 1) (.slice z.2.1 (lfE left is1 p1.id i7 tw z.1).length z.2.2) (lfE left is1 p1.id i7 tw z.1).length ((lfE left is1 p1.id i7 tw z.1).flatMap pktV)]) (fun z => z.1 ≤ left.length) (fun z => left.length - z.1) (Nat.zero_le _) ?_; rintro ⟨b8, ⟨a8, k8⟩⟩ g hb8; dsimp only at hb8 ⊢; have hlf := lfE_len left is1 p1.id i7 tw b8; simp only [List.cons_append, List.nil_append, appR])
      | (refine T.atSR 45 ?_; refine T.cutR 45 (fun _ : Unit => [(24, .slice a8 (lfE left is1 p1.id i7 tw b8).length k8), (25, .int .i64 (b8 : Nat)), (0, .slice a1 D.length k1), (1, .slice a2 cs.length k2), (2, .slice a3 os.length k3), (14, .pointer (some ⟨r_, 0, none⟩)), (16, .slice ta2 told2.length tk2), (17, .slice la left.length lk_), (18, .int .i64 (k : Nat)), (19, .int .i64 (i7 : Nat)), (20, .bool tw), (21, .pointer (some ⟨b21, 0, none⟩)), (22, .bool is1), (215, .bool (lfC is1 p1.id i7 tw b8 (gt left b8)))]) (fun _ => Pw.sl 38 (8 + 1) (.slice a8 (lfE left is1 p1.id i7 tw b8).length k8) (lfE left is1 p1.id i7 tw b8).length ((lfE left is1 p1.id i7 tw b8).flatMap pktV) :: pcA r_ 32 100 S1 :: Pw.sl 38 (8 + 1) (.slice ta2 (told2).length tk2) (told2).length ((told2).flatMap pktV) :: Pw.sl 38 (8 + 1) (.slice la (left).length lk_) (left).length ((left).flatMap pktV) :: row 38 b21 (pktV p1) :: old h :: R) (fun _ => True) ?_ (fun _ g _ => ?_))
      | (refine TQ.atC ?_; refine TQ.cn (() : Unit) rfl ⟨rfl, rfl, rfl, rfl, rfl, rfl, rfl, rfl, rfl, rfl, rfl, rfl, rfl, eqB (by clear hte htf hz2 hWh hpk hqP hlf; unfold lfC; cases is1 <;> cases tw <;> simp_all), trivial⟩ trivial (Ent.imp (by repeat first | exact Imp.refl _ | (apply Imp.pull; focus ((repeat first | exact Del.head _ _ | apply Del.tail); done)) | apply Imp.drop)))
      | (refine TQ.atL ?_; have e8 := lfE_no ‹lfC is1 p1.id i7 tw b8 (gt left b8) = false›; rw [e8]; refine TQ.rd ((b8 + 1, (a8, k8)) : Nat × (Option Addr × Nat)) rfl ⟨rfl, rfl, rfl, rfl, rfl, rfl, rfl, rfl, rfl, rfl, rfl, rfl, rfl, trivial⟩ (by dsimp only; omega) (by dsimp only; omega) (Ent.imp (by repeat first | exact Imp.refl _ | (apply Imp.pull; focus ((repeat first | exact Del.head _ _ | apply Del.tail); done)) | apply Imp.drop)))
      | (refine TQ.atL ?_; rename_i a9; rw [len_snoc (lfE left is1 p1.id i7 tw b8) (gt left b8), lfE_yes ‹lfC is1 p1.id i7 tw b8 (gt left b8) = true›]; refine TQ.rd ((b8 + 1, (a9, b)) : Nat × (Option Addr × Nat)) rfl ⟨rfl, rfl, rfl, rfl, rfl, rfl, rfl, rfl, rfl, rfl, rfl, rfl, rfl, trivial⟩ (by dsimp only; omega) (by dsimp only; omega) (Ent.imp (by repeat first | exact Imp.refl _ | (apply Imp.pull; focus ((repeat first | exact Del.head _ _ | apply Del.tail); done)) | apply Imp.drop)))
      | (refine T.atR 47 ?_; obtain rfl : b8 = left.length := (by omega); rw [lf_left]; have hnx := wh_next tw hte htf; rw [← hz2] at hnx; have hnl := left_len (left := left) (i := i7) (id := p1.id) (tw := tw) (is := is1); have hnt := told_len (told := told) (p := p1) (is := is1); rw [← hz2] at hnt)
      | (refine TQ.atL ?_; refine TQ.rd ((k + 1, S1, told2, (ta2, tk2), leftE left i7 tw is1 p1.id, (a8, k8)) : Nat × List PSet × List Pkt × (Option Addr × Nat) × List Pkt × (Option Addr × Nat)) rfl ⟨rfl, rfl, rfl, rfl, rfl, rfl, rfl, trivial⟩ ⟨by dsimp only; omega, by dsimp only; omega, by dsimp only; omega, hnx⟩ (by dsimp only; omega) (Ent.imp (by repeat first | exact Imp.refl _ | (apply Imp.pull; focus ((repeat first | exact Del.head _ _ | apply Del.tail); done)) | apply Imp.drop)))
      | (refine T.atR 50 ?_; clear hg7; obtain rfl : left = [] := List.length_eq_zero_iff.1 (by omega); have hend := wh_end hCu hWh; have hcnt := wh_count hCu hWh; obtain rfl := hend.1)
      | (refine T.atB 10 ?_; refine T.lpa 10 [(0, _), (14, _), (16, _)] (0 : Nat) (fun i => [(26, .int .i64 (wantE D i : Nat)), (27, .int .i64 (i : Nat))]) (fun _ => []) (fun i => i ≤ D.length) (fun i => D.length - i) (Nat.zero_le _) ?_; rintro w10 g hw10; have hwl := wantE_le (D := D) (n := w10); simp only [List.cons_append, List.nil_append, appR])
      | (refine T.atB 12 ?_; refine T.lpa 12 [(0, _), (14, _), (16, _), (26, _), (27, _)] (0 : Nat) (fun n => [(28, .int .i64 (cnt told (pkI D w10) n : Nat)), (29, .int .i64 (n : Nat))]) (fun _ => []) (fun n => n ≤ told.length) (fun n => told.length - n) (Nat.zero_le _) ?_; rintro n g hn; have hcl := cnt_le (told := told) (t := pkI D w10) (n := n); simp only [List.cons_append, List.nil_append, appR])
      | (refine TQ.atL ?_; refine TQ.rd (n + 1 : Nat) rfl ⟨vN (cnt_yes (by assumption) (by assumption)).symm, rfl, rfl, rfl, rfl, rfl, rfl, trivial⟩ (by omega) (by omega) (Ent.imp (by repeat first | exact Imp.refl _ | (apply Imp.pull; focus ((repeat first | exact Del.head _ _ | apply Del.tail); done)) | apply Imp.drop)))
      | (refine TQ.atL ?_; refine TQ.rd (n + 1 : Nat) rfl ⟨vN (cnt_no (by assumption) (by assumption)).symm, rfl, rfl, rfl, rfl, rfl, rfl, trivial⟩ (by omega) (by omega) (Ent.imp (by repeat first | exact Imp.refl _ | (apply Imp.pull; focus ((repeat first | exact Del.head _ _ | apply Del.tail); done)) | apply Imp.drop)))
      | (refine T.atR 62 ?_; obtain rfl : n = told.length := (by omega); rw [wh_found hCu hWh (by assumption) (by simpa using ‹¬ gt D w10 = []›)])
      | (refine TQ.atL ?_; refine TQ.rd (w10 + 1 : Nat) rfl ⟨vN (wantE_yes (by assumption)).symm, rfl, rfl, rfl, rfl, trivial⟩ (by omega) (by omega) (Ent.imp (by repeat first | exact Imp.refl _ | (apply Imp.pull; focus ((repeat first | exact Del.head _ _ | apply Del.tail); done)) | apply Imp.drop)))
      | (refine TQ.atL ?_; refine TQ.rd (w10 + 1 : Nat) rfl ⟨vN (wantE_no (by assumption)).symm, rfl, rfl, rfl, rfl, trivial⟩ (by omega) (by omega) (Ent.imp (by repeat first | exact Imp.refl _ | (apply Imp.pull; focus ((repeat first | exact Del.head _ _ | apply Del.tail); done)) | apply Imp.drop)))
      | (refine T.atR 64 ?_; obtain rfl : w10 = D.length := (by omega))
      | exact ⟨hWh.ss, hpk, by decide, by decide⟩
      | exact (rfl : (38 : Nat) = 38)
      | exact trivial
      | (exact Fini.of ⟨rfl, rfl⟩ (by repeat first | exact Imp.refl _ | (apply Imp.pull; focus ((repeat first | exact Del.head _ _ | apply Del.tail); done)) | apply Imp.drop))
      | refine T.pl 21 [25, 26] (.p 0 (.p 1 (.p 2 (.p 3 (.p 4 (.p 5 (.p 6 (.p 7 (.p 8 (.p 9 (.p 10 (.p 15 (.p 16 (.p 19 (.p 20 (.p 21 (.p 22 (.d 11 (.d 12 (.p 13 (.p 14 (.d 17 (.d 18 (.p 23 (.p 24 (.n 25 (.n 26 (.p 27 .fin)))))))))))))))))))))))))))) ?_
      | refine T.pl 45 [] (.p 0 (.p 1 (.p 2 (.p 3 (.d 4 (.d 5 (.d 6 (.d 7 (.d 8 (.p 9 (.p 10 (.p 11 (.p 12 (.p 13 (.p 14 (.p 15 (.p 16 (.p 17 (.p 18 (.p 19 (.p 20 (.p 21 (.p 22 .fin))))))))))))))))))))))) ?_
      | refine T.pl 60 [] (.p 0 (.p 1 (.p 4 (.p 5 (.p 6 (.p 7 (.d 2 (.d 3 (.d 8 (.d 9 (.p 10 (.p 11 .fin)))))))))))) ?_
      | refine And.intro (fun hc => ?_) (fun hc => ?_)
      | refine And.intro ?_ ?_
      | intro b
      | refine stp ?_
      | refine TQ.finC ?_
      | refine TQ.finC2 ?_
      | refine TQ.finC3 ?_
      | refine ⟨fun hc => ?_, fun hc => ?_⟩
      | refine Ei.f ?_
      | refine ⟨?_, ?_⟩
      | intro b
      | exact absurd rfl hc
      | exact absurd hc (by decide)
      | exact absurd rfl hc
      | exact absurd hc (by decide)
      | omega
      | (dsimp only; omega)
      | fail)

end Go.Proofs.Ytmhkmcoobpfkcaa

