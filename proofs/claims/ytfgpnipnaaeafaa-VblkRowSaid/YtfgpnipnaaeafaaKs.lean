/- Lemmas for the proofs of this seat: no statement of the seat is claimed here. -/
import Derived.Test.YtfgpnipnaaeafaaKp
import Derived.Test.YtfgpnipnaaeafaaKr
set_option linter.all false

namespace Go.Proofs.Ytfgpnipnaaeafaa
open Go Pw
set_option maxRecDepth 20000
set_option maxHeartbeats 4000000
set_option synthInstance.maxHeartbeats 400000
set_option synthInstance.maxSize 4000
set_option maxHeartbeats 8000000

theorem leB_set' {x n i : Nat} (h : i < n) : (leB x i ++ List.replicate (n - i) 0).set i (UInt8.ofNat (x / 2 ^ (8 * i))) = leB x (i + 1) ++ List.replicate (n - (i + 1)) 0 := by
  have h0 := leB_set (x := x) h
  have h1 : (.int .u8 ((x / 2 ^ (8 * i) % 256 : Nat) : Int) : Value) = byteV (UInt8.ofNat (x / 2 ^ (8 * i))) := by
    simp [byteV]
  rw [h1, ← List.map_set] at h0
  have inj : ∀ a b : UInt8, byteV a = byteV b → a = b := fun a b e => by
    simp only [byteV, Value.int.injEq, true_and] at e
    exact UInt8.toNat_inj.1 (by omega)
  have := List.map_inj_right (f := byteV) (fun a b => inj a b) |>.1 h0
  exact this
theorem imp_le {v : Value} {n x : Nat} {L R : List Assn} (h : Del (Pw.sl 5 (0 + 1) v n ((List.replicate n 0).map byteV)) L R) : Imp L (Pw.sl 5 (0 + 1) v n ((leB x 0 ++ List.replicate (n - 0) 0).map byteV) :: R) := by
  have e : leB x 0 ++ List.replicate (n - 0) 0 = List.replicate n 0 := by simp [leB]
  rw [e]
  exact Imp.pull h (Imp.refl R)
instance {n : Nat} : Inv byteV (.int .u8 ((n % 256 : Nat) : Int)) (UInt8.ofNat n) True := ⟨fun _ => by simp [byteV]⟩
theorem bytesL_spec (x n : Nat) (hx : x < 18446744073709551616) (hn : n ≤ 8) :
    Sat Try.prog 37 [.int .u64 x, .int .i64 n] [] (fun u L' => u = str (leB x n) ∧ L' = []) := by
  have hgo : True := trivial
  all_goals
    refine Sat.enter Try.func37 rfl Try.ntmps37 rfl (fun c R => ?_)
    try simp only [List.cons_append, List.nil_append]
    repeat' (first
      | (refine T.atB 0 ?_; obtain ⟨b4, hb4⟩ : ∃ x, x = b := ⟨_, rfl⟩; subst hb4; refine T.ent (Ent.imp (imp_le (x := x) (by repeat first | exact Del.head _ _ | apply Del.tail))) ?_; refine T.lpa 0 [(0, _), (1, _), (5, _)] (0 : Nat) (fun i => [(6, .int .i64 (i : Nat))]) (fun i => [Pw.sl 5 (0 + 1) (.slice (some ⟨b4, 0, none⟩) n n) n ((leB x i ++ List.replicate (n - i) 0).map byteV)]) (fun i => i ≤ n) (fun i => n - i) (Nat.zero_le _) ?_; rintro i g hi; have hll : i < n → i < (leB x i ++ List.replicate (n - i) 0).length := (fun h => by rw [List.length_append, leB_len, List.length_replicate]; omega); simp only [List.cons_append, List.nil_append, appR])
      | (refine TQ.atL ?_; rw [leB_set' (by assumption)]; refine TQ.rd (i + 1 : Nat) rfl ⟨rfl, rfl, rfl, rfl, trivial⟩ (by first | omega | fail) (by omega) (Ent.imp (by repeat first | exact Imp.refl _ | (apply Imp.pull; focus ((repeat first | exact Del.head _ _ | apply Del.tail); done)) | apply Imp.drop)))
      | (refine T.atR 6 ?_; clear hgo; obtain rfl : i = n := (by omega); rw [Nat.sub_self, List.replicate_zero, List.append_nil])
      | (exact Fini.of ⟨rfl, rfl⟩ (by repeat first | exact Imp.refl _ | (apply Imp.pull; focus ((repeat first | exact Del.head _ _ | apply Del.tail); done)) | apply Imp.drop))
      | exact hll (by assumption)
      | refine And.intro (fun hc => ?_) (fun hc => ?_)
      | refine And.intro ?_ ?_
      | intro b
      | refine stp ?_
      | refine TQ.finC ?_
      | refine TQ.finC2 ?_
      | refine TQ.finC3 ?_
      | refine ⟨fun hc => ?_, fun hc => ?_⟩
      | refine Ei.f ?_
      | refine ⟨?_, ?_⟩
      | intro b
      | exact absurd rfl hc
      | exact absurd hc (by decide)
      | omega
      | (dsimp only; omega)
      | fail)
instance {L : List Assn} {x y : Int} {a n : Nat} [hx : Nn x a] [hy : Nn y n] : FnR Try.prog 37 [.int .u64 x, .int .i64 y] L (fun kk => Vc (a < 18446744073709551616 ∧ n ≤ 8) (kk (str (leB a n)) L)) := ⟨fun kk h => ⟨[], L, _, by rw [hx.h, hy.h]; exact bytesL_spec a n h.l.1 h.l.2, .nil _, fun v L' hq => by rw [hq.1, hq.2]; exact h.r⟩⟩

/-- The ring, but for the memory. -/
def rgA (r p at_ : Nat) (X : XC) (tk : List Bool) (nx ls : Nat) (br : Bool) : Assn :=
  exA (fun _ : Nat × Option Addr × Nat => True) fun x => [row 84 r [.pointer (some ⟨p, 0, none⟩), .int .u32 at_, .int .i64 (tk.length : Nat), .map (some x.1), .slice x.2.1 tk.length x.2.2, .int .u16 nx, .int .u16 ls, .bool br], mapJ chV x.1 (.u16, X), Pw.sl 4 (0 + 1) (.slice x.2.1 tk.length x.2.2) tk.length (tk.map Value.bool), famC X]
class RgAt (L : List Assn) (r : Nat) (p at_ : outParam Nat) (X : outParam XC) (tk : outParam (List Bool)) (nx ls : outParam Nat) (br : outParam Bool) (R : outParam (List Assn)) : Prop where h : Del (rgA r p at_ X tk nx ls br) L R
instance (priority := 1100) {L : List Assn} {r p at_ : Nat} {X : XC} {tk : List Bool} {nx ls : Nat} {br : Bool} : RgAt (rgA r p at_ X tk nx ls br :: L) r p at_ X tk nx ls br L := ⟨.head _ _⟩
instance {A : Assn} {L R : List Assn} {r p at_ : Nat} {X : XC} {tk : List Bool} {nx ls : Nat} {br : Bool} [h : RgAt L r p at_ X tk nx ls br R] : RgAt (A :: L) r p at_ X tk nx ls br (A :: R) := ⟨.tail h.h⟩
theorem used_at {r p at_ : Nat} {X : XC} {tk : List Bool} {nx ls : Nat} {br : Bool} (h : tk.length ≤ 256 ∧ at_ ≤ 1048576) : Sat Try.prog 36 [.pointer (some ⟨r, 0, none⟩)] [rgA r p at_ X tk nx ls br] (fun u L' => u = .int .u32 (at_ + partN tk.length : Nat) ∧ L' = [rgA r p at_ X tk nx ls br]) := by
  refine Sat.openA1 ?_
  rintro ⟨mp, ta, tc⟩ -
  refine Sat.imp ?_ (((used_spec r at_ tk.length nx ls (.pointer (some ⟨p, 0, none⟩)) (.map (some mp)) (.slice ta tk.length tc) br h.1 h.2).frame (F := [mapJ chV mp (.u16, X), Pw.sl 4 (0 + 1) (.slice ta tk.length tc) tk.length (tk.map Value.bool), famC X])).post ?_)
  rotate_left
  · rintro u L' ⟨_, ⟨rfl, rfl⟩, rfl⟩
    exact ⟨_, Imp.shutA1 (mp, ta, tc) trivial (by simp only [List.cons_append, List.nil_append]; repeat first | exact Imp.refl _ | (apply Imp.pull; focus ((repeat first | exact Del.head _ _ | apply Del.tail); done)) | apply Imp.drop), rfl, rfl⟩
  · dsimp only
    simp only [List.cons_append, List.nil_append]
    repeat first | exact Imp.refl _ | (apply Imp.pull; focus ((repeat first | exact Del.head _ _ | apply Del.tail); done)) | apply Imp.drop
instance {L R : List Assn} {r p at_ : Nat} {X : XC} {tk : List Bool} {nx ls : Nat} {br : Bool} [h1 : RgAt L r p at_ X tk nx ls br R] : FnR Try.prog 36 [.pointer (some ⟨r, 0, none⟩)] L (fun kk => Vc (tk.length ≤ 256 ∧ at_ ≤ 1048576) (kk (.int .u32 (at_ + partN tk.length : Nat)) (rgA r p at_ X tk nx ls br :: R))) :=
  ⟨fun kk h => ⟨_, R, _, used_at h.l, .cons h1.h (.nil _), fun v L' hv => by rw [hv.1, hv.2]; exact h.r⟩⟩
theorem avail_at {r p at_ : Nat} {X : XC} {tk : List Bool} {nx ls : Nat} {br : Bool} (h : tk.length ≤ 256 ∧ at_ ≤ 1048576) : Sat Try.prog 14 [.pointer (some ⟨r, 0, none⟩)] [rgA r p at_ X tk nx ls br] (fun u L' => u = .int .u32 (at_ + 16 * tk.length : Nat) ∧ L' = [rgA r p at_ X tk nx ls br]) := by
  refine Sat.openA1 ?_
  rintro ⟨mp, ta, tc⟩ -
  refine Sat.imp ?_ (((avail_spec r at_ tk.length nx ls (.pointer (some ⟨p, 0, none⟩)) (.map (some mp)) (.slice ta tk.length tc) br h.1 h.2).frame (F := [mapJ chV mp (.u16, X), Pw.sl 4 (0 + 1) (.slice ta tk.length tc) tk.length (tk.map Value.bool), famC X])).post ?_)
  rotate_left
  · rintro u L' ⟨_, ⟨rfl, rfl⟩, rfl⟩
    exact ⟨_, Imp.shutA1 (mp, ta, tc) trivial (by simp only [List.cons_append, List.nil_append]; repeat first | exact Imp.refl _ | (apply Imp.pull; focus ((repeat first | exact Del.head _ _ | apply Del.tail); done)) | apply Imp.drop), rfl, rfl⟩
  · dsimp only
    simp only [List.cons_append, List.nil_append]
    repeat first | exact Imp.refl _ | (apply Imp.pull; focus ((repeat first | exact Del.head _ _ | apply Del.tail); done)) | apply Imp.drop
instance {L R : List Assn} {r p at_ : Nat} {X : XC} {tk : List Bool} {nx ls : Nat} {br : Bool} [h1 : RgAt L r p at_ X tk nx ls br R] : FnR Try.prog 14 [.pointer (some ⟨r, 0, none⟩)] L (fun kk => Vc (tk.length ≤ 256 ∧ at_ ≤ 1048576) (kk (.int .u32 (at_ + 16 * tk.length : Nat)) (rgA r p at_ X tk nx ls br :: R))) :=
  ⟨fun kk h => ⟨_, R, _, avail_at h.l, .cons h1.h (.nil _), fun v L' hv => by rw [hv.1, hv.2]; exact h.r⟩⟩
theorem left_at {r p at_ : Nat} {X : XC} {tk : List Bool} {nx ls : Nat} {br : Bool} (h : tk.length ≤ 256) : Sat Try.prog 68 [.pointer (some ⟨r, 0, none⟩)] [rgA r p at_ X tk nx ls br] (fun u L' => u = .int .i64 (cntF tk tk.length : Nat) ∧ L' = [rgA r p at_ X tk nx ls br]) := by
  refine Sat.openA1 ?_
  rintro ⟨mp, ta, tc⟩ -
  refine Sat.imp ?_ (((left_spec r at_ tk.length nx ls tc (.pointer (some ⟨p, 0, none⟩)) (.map (some mp)) br ta tk h).frame (F := [mapJ chV mp (.u16, X), famC X])).post ?_)
  rotate_left
  · rintro u L' ⟨_, ⟨rfl, rfl⟩, rfl⟩
    exact ⟨_, Imp.shutA1 (mp, ta, tc) trivial (by simp only [List.cons_append, List.nil_append]; repeat first | exact Imp.refl _ | (apply Imp.pull; focus ((repeat first | exact Del.head _ _ | apply Del.tail); done)) | apply Imp.drop), rfl, rfl⟩
  · dsimp only
    simp only [List.cons_append, List.nil_append]
    repeat first | exact Imp.refl _ | (apply Imp.pull; focus ((repeat first | exact Del.head _ _ | apply Del.tail); done)) | apply Imp.drop
instance {L R : List Assn} {r p at_ : Nat} {X : XC} {tk : List Bool} {nx ls : Nat} {br : Bool} [h1 : RgAt L r p at_ X tk nx ls br R] : FnR Try.prog 68 [.pointer (some ⟨r, 0, none⟩)] L (fun kk => Vc (tk.length ≤ 256) (kk (.int .i64 (cntF tk tk.length : Nat)) (rgA r p at_ X tk nx ls br :: R))) :=
  ⟨fun kk h => ⟨_, R, _, left_at h.l, .cons h1.h (.nil _), fun v L' hv => by rw [hv.1, hv.2]; exact h.r⟩⟩
end Go.Proofs.Ytfgpnipnaaeafaa


namespace Go.Proofs.Ytfgpnipnaaeafaa
open Go Pw
set_option maxRecDepth 20000
set_option maxHeartbeats 4000000
set_option synthInstance.maxHeartbeats 400000
set_option synthInstance.maxSize 4000
set_option maxHeartbeats 4000000

def dsX (X : XC) : List Nat := X.flatMap fun y => y.2.d
structure RgOk (at_ N : Nat) (X : XC) (tk : List Bool) (nx ls : Nat) : Prop where
  n0 : 0 < tk.length
  n1 : tk.length ≤ 256
  a : at_ ≤ 1048576
  N : N ≤ 1048576
  nx : nx < 65536
  ls : ls < 65536
  ch : ∀ y ∈ X, ChOk tk.length y.2
  hd : ∀ y ∈ X, 0 < y.2.d.length ∧ gt y.2.d 0 = y.1
  nd : (dsX X).Nodup
  tk1 : ∀ m ∈ dsX X, gt tk m = true
  cnt : cntF tk tk.length + (dsX X).length = tk.length
theorem dsX_app (A B : XC) : dsX (A ++ B) = dsX A ++ dsX B := List.flatMap_append
theorem dsX_cons (y : Nat × Ch) (B : XC) : dsX (y :: B) = y.2.d ++ dsX B := List.flatMap_cons
theorem mem_ds {X : XC} {y : Nat × Ch} (h : y ∈ X) {m : Nat} (hm : m ∈ y.2.d) : m ∈ dsX X := List.mem_flatMap.2 ⟨y, h, hm⟩
theorem RgOk.key {at_ N : Nat} {X : XC} {tk : List Bool} {nx ls : Nat} (h : RgOk at_ N X tk nx ls) {y : Nat × Ch} (hy : y ∈ X) : y.1 ∈ dsX X := by
  obtain ⟨h1, h2⟩ := h.hd y hy
  rw [← h2]
  exact mem_ds hy (gt_mem h1)
theorem RgOk.keys {at_ N : Nat} {X : XC} {tk : List Bool} {nx ls : Nat} (h : RgOk at_ N X tk nx ls) : (X.map (·.1)).Nodup := by
  have hhd := h.hd
  have hnd := h.nd
  clear h
  induction X with
  | nil => exact List.nodup_nil
  | cons y X ih =>
    rw [dsX_cons, List.nodup_append] at hnd
    rw [List.map_cons, List.nodup_cons]
    refine ⟨fun hm => ?_, ih (fun z hz => hhd z (List.mem_cons_of_mem _ hz)) hnd.2.1⟩
    obtain ⟨z, hz, e⟩ := List.mem_map.1 hm
    obtain ⟨h1, h2⟩ := hhd y List.mem_cons_self
    obtain ⟨h3, h4⟩ := hhd z (List.mem_cons_of_mem _ hz)
    refine hnd.2.2 y.1 (by rw [← h2]; exact gt_mem h1) z.1 (by rw [← h4]; exact mem_ds hz (gt_mem h3)) e.symm
theorem ds_len {X : XC} (h : ∀ y ∈ X, 0 < y.2.d.length) : X.length ≤ (dsX X).length := by
  induction X with
  | nil => simp [dsX]
  | cons y X ih =>
    rw [dsX_cons, List.length_append, List.length_cons]
    have := h y List.mem_cons_self
    have := ih fun z hz => h z (List.mem_cons_of_mem _ hz)
    omega
theorem RgOk.xl {at_ N : Nat} {X : XC} {tk : List Bool} {nx ls : Nat} (h : RgOk at_ N X tk nx ls) : X.length ≤ 256 := by
  have := ds_len (X := X) fun y hy => (h.hd y hy).1
  have := h.cnt
  have := h.n1
  omega
theorem add_len {at_ nx hd e nx' : Nat} {bs bs' : List UInt8} {lt lt' tk tk' : List Bool} {l : List Bf} {X X' : XC} {br : Bool} (h : AddP at_ bs lt l X tk nx br hd e bs' lt' X' tk' nx') : tk'.length = tk.length ∧ bs'.length = bs.length := by
  cases h with
  | dead => exact ⟨rfl, rfl⟩
  | no => exact ⟨rfl, rfl⟩
  | lent => exact ⟨rfl, rfl⟩
  | done _ _ _ _ _ _ _ h2 _ h4 _ => exact ⟨(st_ok _ (h2.ok rfl).2.2.2).tl, h4.len⟩
theorem add_ok {at_ nx ls hd e nx' : Nat} {bs bs' : List UInt8} {lt lt' tk tk' : List Bool} {l : List Bf} {X X' : XC} {br : Bool} (hl : ∀ b ∈ l, b.ok) (h : AddP at_ bs lt l X tk nx br hd e bs' lt' X' tk' nx') (k : RgOk at_ bs.length X tk nx ls) : RgOk at_ bs'.length X' tk' nx' ls := by
  cases h with
  | dead => exact k
  | no => exact k
  | lent => exact k
  | done _ _ da dk ba bk _ h2 _ h4 _ =>
    obtain ⟨l1, l8, -, hc⟩ := h2.ok rfl
    have hst := st_ok _ hc
    have htl := hst.tl
    have hdl := hst.dl
    have hx1 := hst.x1
    have hds : dsX (X ++ [(gt (stE tk l.length).1 0, (⟨(stE tk l.length).1, l, da, dk, ba, bk⟩ : Ch))]) = dsX X ++ (stE tk l.length).1 := by
      rw [dsX_app, dsX_cons]; simp [dsX]
    have hlt : ∀ x ∈ dsX X, x < tk.length := fun x hx => by
      obtain ⟨y, hy, hm⟩ := List.mem_flatMap.1 hx
      exact (k.ch y hy).d x hm
    have hlt2 : ∀ x ∈ (stE tk l.length).1, x < tk.length := fun x hx => by
      have := (hst.dd x hx).1; omega
    refine ⟨by rw [htl]; exact k.n0, by rw [htl]; exact k.n1, k.a, by rw [h4.len]; exact k.N, Nat.mod_lt _ (by omega), k.ls, ?_, ?_, ?_, ?_, ?_⟩
    · intro y hy
      rw [htl]
      rcases List.mem_append.1 hy with hy | hy
      · exact k.ch y hy
      · rw [List.mem_singleton] at hy; subst hy
        exact ⟨hlt2, hl, by dsimp only; omega, l8⟩
    · intro y hy
      rcases List.mem_append.1 hy with hy | hy
      · exact k.hd y hy
      · rw [List.mem_singleton] at hy; subst hy
        exact ⟨by dsimp only; omega, rfl⟩
    · rw [hds, List.nodup_append]
      refine ⟨k.nd, hst.nd, fun a ha b hb e => ?_⟩
      have h5 := k.tk1 a ha
      rw [e, (hst.dd b hb).2] at h5
      cases h5
    · intro m hm
      rw [hds, List.mem_append] at hm
      rcases hm with hm | hm
      · exact (hst.tt m (hlt m hm)).2 (.inl (k.tk1 m hm))
      · exact (hst.tt m (hlt2 m hm)).2 (.inr hm)
    · rw [hds, List.length_append, hdl, htl]
      have := hst.cnt
      have := k.cnt
      omega
theorem clr_ok {tk : List Bool} {d : List Nat} (hd : d.Nodup) (hl : ∀ x ∈ d, x < tk.length ∧ gt tk x = true) : ∀ j, j ≤ d.length → (∀ m, gt (clrE tk d j) m = if m ∈ d.take j then false else gt tk m) ∧ cntF (clrE tk d j) tk.length = cntF tk tk.length + j
  | 0, _ => ⟨fun m => by simp [clrE], rfl⟩
  | j + 1, hj => by
    obtain ⟨h1, h2⟩ := clr_ok hd hl j (by omega)
    have hlen := clrE_len tk d j
    obtain ⟨h3, h4⟩ := hl _ (gt_mem (show j < d.length by omega))
    have hn : gt d j ∉ d.take j := fun hm => by
      have e : d = d.take j ++ gt d j :: d.drop (j + 1) := by
        conv => lhs; rw [← List.take_append_drop j d, drop_gt (show j < d.length by omega)]
      rw [e, List.nodup_append] at hd
      exact hd.2.2 _ hm _ List.mem_cons_self rfl
    have h5 : gt (clrE tk d j) (gt d j) = true := by rw [h1, if_neg hn]; exact h4
    have s1 : clrE tk d (j + 1) = (clrE tk d j).set (gt d j) false := rfl
    refine ⟨fun m => ?_, ?_⟩
    · rw [s1, gt_set (by omega), take_gt (show j < d.length by omega), h1]
      by_cases hm : m = gt d j
      · rw [if_pos hm, if_pos (by rw [hm]; simp)]
      · rw [if_neg hm]
        by_cases hm2 : m ∈ d.take j
        · rw [if_pos hm2, if_pos (List.mem_append_left _ hm2)]
        · rw [if_neg hm2, if_neg]
          rw [List.mem_append, List.mem_singleton]
          rintro (h | h)
          · exact hm2 h
          · exact hm h
    · have := cntF_clr (l := clrE tk d j) (z := gt d j) (by omega) h5 tk.length (by omega)
      rw [if_pos (by omega)] at this
      rw [s1]; omega
theorem poll_len {at_ ls hd sz e ls' : Nat} {bs : List UInt8} {lt lt' tk tk' : List Bool} {X X' : XC} {br br' is : Bool} (h : PollP bs lt at_ X tk ls br hd sz is e X' tk' ls' br' lt') : tk'.length = tk.length := by
  cases h with
  | dead => rfl
  | none => rfl
  | breaks => rfl
  | done => exact clrE_len _ _ _
theorem poll_ok {at_ N nx ls hd sz e ls' : Nat} {bs : List UInt8} {lt lt' tk tk' : List Bool} {X X' : XC} {br br' is : Bool} (h : PollP bs lt at_ X tk ls br hd sz is e X' tk' ls' br' lt') (k : RgOk at_ N X tk nx ls) : RgOk at_ N X' tk' nx ls' := by
  cases h with
  | dead => exact k
  | none => exact k
  | breaks => exact k
  | done c _ _ _ hat _ =>
    obtain ⟨A, B, e1, e2, _⟩ := atJ_split hat
    have hmem := atJ_mem hat
    have hds : dsX X = dsX A ++ (c.d ++ dsX B) := by
      conv => lhs; rw [e1]
      rw [dsX_app, dsX_cons]
    have hds2 : dsX (Pw.delJ X (numE bs (slotE at_ tk.length ls) 4).1) = dsX A ++ dsX B := by rw [e2, dsX_app]
    have hnd := k.nd
    rw [hds, List.nodup_append, List.nodup_append] at hnd
    obtain ⟨na, ⟨nc, nb, ncb⟩, nacb⟩ := hnd
    obtain ⟨c1, c2⟩ := clr_ok (tk := tk) (d := c.d) nc (fun x hx => ⟨(k.ch _ hmem).d x hx, k.tk1 x (mem_ds hmem hx)⟩) c.d.length (Nat.le_refl _)
    have hlen := clrE_len tk c.d c.d.length
    have sub : ∀ y ∈ Pw.delJ X (numE bs (slotE at_ tk.length ls) 4).1, y ∈ X := fun y hy => by
      rw [e2] at hy
      rw [e1, List.mem_append, List.mem_cons]
      rcases List.mem_append.1 hy with h | h
      · exact .inl h
      · exact .inr (.inr h)
    refine ⟨by rw [hlen]; exact k.n0, by rw [hlen]; exact k.n1, k.a, k.N, k.nx, Nat.mod_lt _ (by omega), ?_, ?_, ?_, ?_, ?_⟩
    · intro y hy
      rw [hlen]
      exact k.ch y (sub y hy)
    · intro y hy
      exact k.hd y (sub y hy)
    · rw [hds2, List.nodup_append]
      exact ⟨na, nb, fun a ha b hb => nacb a ha b (List.mem_append_right _ hb)⟩
    · intro m hm
      rw [hds2, List.mem_append] at hm
      rw [c1, List.take_length, if_neg]
      · refine k.tk1 m ?_
        rw [hds, List.mem_append, List.mem_append]
        rcases hm with h | h
        · exact .inl h
        · exact .inr (.inr h)
      · intro hc
        rcases hm with h | h
        · exact nacb m h m (List.mem_append_left _ hc) rfl
        · exact ncb m hc m h rfl
    · have := k.cnt
      rw [hds, List.length_append, List.length_append] at this
      rw [hds2, List.length_append, hlen]
      omega
theorem add_at {r p at_ k nx ls : Nat} {br : Bool} {a : Option Addr} {X : XC} {l : List Bf} {tk : List Bool} {bs : List UInt8} {lt : List Bool} (h : RgOk at_ bs.length X tk nx ls) (hok : ∀ b ∈ l, b.ok) (hln : l.length < 9223372036854775808) : Sat Try.prog 32 [.pointer (some ⟨r, 0, none⟩), .slice a l.length k] [rgA r p at_ X tk nx ls br, memA p bs lt, Pw.sl 90 (2 + 1) (.slice a l.length k) l.length (l.flatMap bufV)] (fun u L' => ∃ hd e bs' lt' X' tk' nx', AddP at_ bs lt l X tk nx br hd e bs' lt' X' tk' nx' ∧ u = .tuple #[.int .u16 (hd : Nat), .int .i64 (e : Nat)] ∧ L' = [rgA r p at_ X' tk' nx' ls br, memA p bs' lt', Pw.sl 90 (2 + 1) (.slice a l.length k) l.length (l.flatMap bufV)]) := by
  refine Sat.openA (.head _ _) ?_
  rintro ⟨mp, ta, tc⟩ -
  refine Sat.imp ?_ ((add_spec r p at_ nx ls mp tc k br a ta X l tk bs lt hok hln (fun y hy => h.tk1 _ (h.key hy)) h.n0 h.n1 h.a h.nx h.N).post ?_)
  rotate_left
  · rintro u L' ⟨hd, e, bs', lt', X', tk', nx', h1, h2, rfl⟩
    have htl := (add_len h1).1
    refine ⟨_, Imp.shutA (L := _) (R := [memA p bs' lt', Pw.sl 90 (2 + 1) (.slice a l.length k) l.length (l.flatMap bufV)]) (mp, ta, tc) trivial ?_, hd, e, bs', lt', X', tk', nx', h1, h2, rfl⟩
    dsimp only
    simp only [List.cons_append, List.nil_append, htl]
    repeat first | exact Imp.refl _ | (apply Imp.pull; focus ((repeat first | exact Del.head _ _ | apply Del.tail); done)) | apply Imp.drop
  · dsimp only
    simp only [List.cons_append, List.nil_append]
    repeat first | exact Imp.refl _ | (apply Imp.pull; focus ((repeat first | exact Del.head _ _ | apply Del.tail); done)) | apply Imp.drop
theorem poll_at {r p at_ nx ls : Nat} {br : Bool} {X : XC} {tk : List Bool} {bs : List UInt8} {lt : List Bool} (h : RgOk at_ bs.length X tk nx ls) : Sat Try.prog 59 [.pointer (some ⟨r, 0, none⟩)] [rgA r p at_ X tk nx ls br, memA p bs lt] (fun u L' => ∃ hd sz is e X' tk' ls' br' lt', PollP bs lt at_ X tk ls br hd sz is e X' tk' ls' br' lt' ∧ u = .tuple #[.agg #[.int .u16 (hd : Nat), .int .u32 (sz : Nat)], .bool is, .int .i64 (e : Nat)] ∧ L' = [rgA r p at_ X' tk' nx ls' br', memA p bs lt']) := by
  refine Sat.openA (.head _ _) ?_
  rintro ⟨mp, ta, tc⟩ -
  refine Sat.imp ?_ ((poll_spec r p at_ nx ls mp tc br ta X tk bs lt h.ch h.n0 h.n1 h.a h.ls h.xl).post ?_)
  rotate_left
  · rintro u L' ⟨hd, sz, is, e, X', tk', ls', br', lt', h1, h2, rfl⟩
    have htl := poll_len h1
    refine ⟨_, Imp.shutA (L := _) (R := [memA p bs lt']) (mp, ta, tc) trivial ?_, hd, sz, is, e, X', tk', ls', br', lt', h1, h2, rfl⟩
    dsimp only
    simp only [List.cons_append, List.nil_append, htl]
    repeat first | exact Imp.refl _ | (apply Imp.pull; focus ((repeat first | exact Del.head _ _ | apply Del.tail); done)) | apply Imp.drop
  · dsimp only
    simp only [List.cons_append, List.nil_append]
    repeat first | exact Imp.refl _ | (apply Imp.pull; focus ((repeat first | exact Del.head _ _ | apply Del.tail); done)) | apply Imp.drop
instance {L R : List Assn} {r p at_ nx ls k m : Nat} {br : Bool} {a : Option Addr} {X : XC} {l : List Bf} {tk : List Bool} {bs : List UInt8} {lt : List Bool} {R1 R2 : List Assn} [h1 : RgAt L r p at_ X tk nx ls br R1] [h2 : MemAt R1 p bs lt R2] [h3 : SlAt R2 (.slice a m k) 90 (2 + 1) m (l.flatMap bufV) R] : FnR Try.prog 32 [.pointer (some ⟨r, 0, none⟩), .slice a m k] L (fun kk => Vc (m = l.length ∧ RgOk at_ bs.length X tk nx ls ∧ (∀ b ∈ l, b.ok) ∧ l.length < 9223372036854775808) (∀ hd e bs' lt' X' tk' nx', AddP at_ bs lt l X tk nx br hd e bs' lt' X' tk' nx' → kk (.tuple #[.int .u16 (hd : Nat), .int .i64 (e : Nat)]) (rgA r p at_ X' tk' nx' ls br :: memA p bs' lt' :: Pw.sl 90 (2 + 1) (.slice a m k) m (l.flatMap bufV) :: R))) :=
  ⟨fun kk h => by
    obtain ⟨⟨rfl, e1, e2, e3⟩, h9⟩ := h
    exact ⟨_, R, _, add_at e1 e2 e3, .cons h1.h (.cons h2.h (.cons h3.h (.nil _))), fun v L' hv => by obtain ⟨hd, e, bs', lt', X', tk', nx', f1, f2, f3⟩ := hv; rw [f2, f3]; exact h9 _ _ _ _ _ _ _ f1⟩⟩
instance {L R : List Assn} {r p at_ nx ls : Nat} {br : Bool} {X : XC} {tk : List Bool} {bs : List UInt8} {lt : List Bool} {R1 : List Assn} [h1 : RgAt L r p at_ X tk nx ls br R1] [h2 : MemAt R1 p bs lt R] : FnR Try.prog 59 [.pointer (some ⟨r, 0, none⟩)] L (fun kk => Vc (RgOk at_ bs.length X tk nx ls) (∀ hd sz is e X' tk' ls' br' lt', PollP bs lt at_ X tk ls br hd sz is e X' tk' ls' br' lt' → kk (.tuple #[.agg #[.int .u16 (hd : Nat), .int .u32 (sz : Nat)], .bool is, .int .i64 (e : Nat)]) (rgA r p at_ X' tk' nx ls' br' :: memA p bs lt' :: R))) :=
  ⟨fun kk h => by
    obtain ⟨e1, h9⟩ := h
    exact ⟨_, R, _, poll_at e1, .cons h1.h (.cons h2.h (.nil _)), fun v L' hv => by obtain ⟨hd, sz, is, e, X', tk', ls', br', lt', f1, f2, f3⟩ := hv; rw [f2, f3]; exact h9 _ _ _ _ _ _ _ _ _ f1⟩⟩

end Go.Proofs.Ytfgpnipnaaeafaa


namespace Go.Proofs.Ytfgpnipnaaeafaa
open Go Pw
set_option maxRecDepth 20000
set_option maxHeartbeats 4000000
set_option synthInstance.maxHeartbeats 400000
set_option synthInstance.maxSize 4000
set_option maxHeartbeats 8000000

theorem Imp.famN {L L' : List Assn} (i : Imp L L') : Imp L (famC [] :: L') := i.trans famC_nil
theorem rep_bool {n : Nat} : (List.replicate n [Value.bool false]).flatten = (List.replicate n false).map Value.bool := by simp
theorem Imp.shutR {r p at_ mp n : Nat} {ta : Option Addr} {tc : Nat} {L L' : List Assn} (h : Imp L (row 84 r [.pointer (some ⟨p, 0, none⟩), .int .u32 at_, .int .i64 (n : Nat), .map (some mp), .slice ta n tc, .int .u16 (0 : Nat), .int .u16 (0 : Nat), .bool false] :: mapJ chV mp (.u16, []) :: Pw.sl 4 (0 + 1) (.slice ta n tc) n ((List.replicate n false).map Value.bool) :: famC [] :: L')) : Imp L (rgA r p at_ [] (List.replicate n false) 0 0 false :: L') := by
  refine Imp.shutA (mp, ta, tc) trivial ?_
  simp only [List.cons_append, List.nil_append, List.length_replicate]
  exact h
attribute [local irreducible] writeE turnE sizeE partN
theorem rnew_nil (n : Int) :
    Sat Try.prog 26 [.pointer none, .int .u32 0, .int .i64 n] [] (fun u L' => u = .tuple #[.pointer none, .int .i64 1] ∧ L' = []) := by
  all_goals
    refine Sat.enter Try.func26 rfl Try.ntmps26 rfl (fun c R => ?_)
    try simp only [List.cons_append, List.nil_append]
    repeat' (first
      | (exact Fini.of ⟨rfl, rfl⟩ (by repeat first | exact Imp.refl _ | (apply Imp.pull; focus ((repeat first | exact Del.head _ _ | apply Del.tail); done)) | apply Imp.drop))
      | refine And.intro (fun hc => ?_) (fun hc => ?_)
      | refine And.intro ?_ ?_
      | intro b
      | refine stp ?_
      | refine TQ.finC ?_
      | refine TQ.finC2 ?_
      | refine TQ.finC3 ?_
      | refine ⟨fun hc => ?_, fun hc => ?_⟩
      | refine Ei.f ?_
      | refine ⟨?_, ?_⟩
      | intro b
      | exact absurd rfl hc
      | exact absurd hc (by decide)
      | omega
      | (dsimp only; omega)
      | fail)
theorem add_nil  :
    Sat Try.prog 32 [.pointer none, .slice none 0 0] [] (fun u L' => u = .tuple #[.int .u16 0, .int .i64 1] ∧ L' = []) := by
  all_goals
    refine Sat.enter Try.func32 rfl Try.ntmps32 rfl (fun c R => ?_)
    try simp only [List.cons_append, List.nil_append]
    repeat' (first
      | (exact Fini.of ⟨rfl, rfl⟩ (by repeat first | exact Imp.refl _ | (apply Imp.pull; focus ((repeat first | exact Del.head _ _ | apply Del.tail); done)) | apply Imp.drop))
      | refine T.pl 15 [3, 4, 5, 7] (.p 2 (.p 0 (.b2 1 (.n 3 (.n 4 (.n 5 (.d 6 (.n 7 .fin))))) 3 (.b2 1 (.n 4 (.n 5 (.d 6 (.n 7 .fin)))) 4 (.d 1 (.n 5 (.d 6 (.n 7 .fin)))))))) ?_
      | refine T.pl 23 [6] (.p 0 (.p 1 (.p 4 (.d 2 (.d 3 (.d 5 (.n 6 .fin))))))) ?_
      | refine T.pl 24 [5, 21] (.p 0 (.p 1 (.p 4 (.p 7 (.p 8 (.p 12 (.p 13 (.p 20 (.p 2 (.p 9 (.p 14 (.b4 3 (.b3 5 (.p 6 (.d 10 (.p 11 (.d 15 (.p 16 (.p 17 (.p 18 (.p 19 (.n 21 .fin))))))))) 10 (.p 11 (.b2 5 (.p 6 (.d 15 (.p 16 (.p 17 (.p 18 (.p 19 (.n 21 .fin))))))) 15 (.p 16 (.p 17 (.p 18 (.n 5 (.p 6 (.p 19 (.n 21 .fin))))))))) 15 (.b2 5 (.p 6 (.d 10 (.p 11 (.p 16 (.p 17 (.p 18 (.p 19 (.n 21 .fin)))))))) 10 (.p 11 (.p 16 (.p 17 (.p 18 (.n 5 (.p 6 (.p 19 (.n 21 .fin)))))))))) 5 (.p 6 (.d 3 (.d 10 (.p 11 (.d 15 (.p 16 (.p 17 (.p 18 (.p 19 (.n 21 .fin)))))))))) 10 (.p 11 (.b3 3 (.b2 5 (.p 6 (.d 15 (.p 16 (.p 17 (.p 18 (.p 19 (.n 21 .fin))))))) 15 (.p 16 (.p 17 (.p 18 (.n 5 (.p 6 (.p 19 (.n 21 .fin)))))))) 5 (.p 6 (.d 3 (.d 15 (.p 16 (.p 17 (.p 18 (.p 19 (.n 21 .fin)))))))) 15 (.p 16 (.p 17 (.p 18 (.b2 3 (.n 5 (.p 6 (.p 19 (.n 21 .fin)))) 5 (.p 6 (.p 19 (.d 3 (.n 21 .fin)))))))))) 15 (.b3 3 (.b2 5 (.p 6 (.d 10 (.p 11 (.p 16 (.p 17 (.p 18 (.p 19 (.n 21 .fin)))))))) 10 (.p 11 (.p 16 (.p 17 (.p 18 (.n 5 (.p 6 (.p 19 (.n 21 .fin))))))))) 5 (.p 6 (.d 3 (.d 10 (.p 11 (.p 16 (.p 17 (.p 18 (.p 19 (.n 21 .fin))))))))) 10 (.p 11 (.p 16 (.p 17 (.p 18 (.b2 3 (.n 5 (.p 6 (.p 19 (.n 21 .fin)))) 5 (.p 6 (.p 19 (.d 3 (.n 21 .fin)))))))))))))))))))))) ?_
      | refine T.pl 26 [5, 11] (.p 0 (.p 1 (.p 4 (.p 7 (.p 8 (.p 2 (.p 9 (.b3 3 (.b2 5 (.p 6 (.d 10 (.n 11 .fin))) 10 (.n 5 (.p 6 (.n 11 .fin)))) 5 (.p 6 (.d 3 (.d 10 (.n 11 .fin)))) 10 (.b2 3 (.n 5 (.p 6 (.n 11 .fin))) 5 (.p 6 (.d 3 (.n 11 .fin)))))))))))) ?_
      | refine And.intro (fun hc => ?_) (fun hc => ?_)
      | refine And.intro ?_ ?_
      | intro b
      | refine stp ?_
      | refine TQ.finC ?_
      | refine TQ.finC2 ?_
      | refine TQ.finC3 ?_
      | refine ⟨fun hc => ?_, fun hc => ?_⟩
      | refine Ei.f ?_
      | refine ⟨?_, ?_⟩
      | intro b
      | exact absurd rfl hc
      | exact absurd hc (by decide)
      | omega
      | (dsimp only; omega)
      | fail)
theorem poll_nil  :
    Sat Try.prog 59 [.pointer none] [] (fun u L' => u = .tuple #[.agg #[.int .u16 0, .int .u32 0], .bool false, .int .i64 1] ∧ L' = []) := by
  all_goals
    refine Sat.enter Try.func59 rfl Try.ntmps59 rfl (fun c R => ?_)
    try simp only [List.cons_append, List.nil_append]
    repeat' (first
      | (exact Fini.of ⟨rfl, rfl⟩ (by repeat first | exact Imp.refl _ | (apply Imp.pull; focus ((repeat first | exact Del.head _ _ | apply Del.tail); done)) | apply Imp.drop))
      | refine T.pl 5 [5, 7] (.p 0 (.p 1 (.p 4 (.p 2 (.b2 3 (.n 5 (.p 6 (.n 7 (.p 8 (.p 9 (.p 10 (.p 11 (.p 12 .fin)))))))) 5 (.p 6 (.d 3 (.n 7 (.p 8 (.p 9 (.p 10 (.p 11 (.p 12 .fin))))))))))))) ?_
      | refine T.pl 11 [1] (.p 0 (.p 3 (.p 4 (.p 8 (.p 9 (.p 5 (.p 10 (.b3 1 (.p 2 (.d 6 (.p 7 (.d 11 (.p 12 (.p 13 (.p 14 (.p 15 (.p 16 .fin))))))))) 6 (.p 7 (.b2 1 (.p 2 (.d 11 (.p 12 (.p 13 (.p 14 (.p 15 (.p 16 .fin))))))) 11 (.p 12 (.p 13 (.p 14 (.n 1 (.p 2 (.p 15 (.p 16 .fin))))))))) 11 (.b2 1 (.p 2 (.d 6 (.p 7 (.p 12 (.p 13 (.p 14 (.p 15 (.p 16 .fin)))))))) 6 (.p 7 (.p 12 (.p 13 (.p 14 (.n 1 (.p 2 (.p 15 (.p 16 .fin))))))))))))))))) ?_
      | refine And.intro (fun hc => ?_) (fun hc => ?_)
      | refine And.intro ?_ ?_
      | intro b
      | refine stp ?_
      | refine TQ.finC ?_
      | refine TQ.finC2 ?_
      | refine TQ.finC3 ?_
      | refine ⟨fun hc => ?_, fun hc => ?_⟩
      | refine Ei.f ?_
      | refine ⟨?_, ?_⟩
      | intro b
      | exact absurd rfl hc
      | exact absurd hc (by decide)
      | omega
      | (dsimp only; omega)
      | fail)
theorem chain_nil (h : Nat) :
    Sat Try.prog 34 [.pointer none, .int .u16 h] [] (fun u L' => u = .tuple #[.slice none 0 0, .int .i64 1] ∧ L' = []) := by
  all_goals
    refine Sat.enter Try.func34 rfl Try.ntmps34 rfl (fun c R => ?_)
    try simp only [List.cons_append, List.nil_append]
    repeat' (first
      | (exact Fini.of ⟨rfl, rfl⟩ (by repeat first | exact Imp.refl _ | (apply Imp.pull; focus ((repeat first | exact Del.head _ _ | apply Del.tail); done)) | apply Imp.drop))
      | refine And.intro (fun hc => ?_) (fun hc => ?_)
      | refine And.intro ?_ ?_
      | intro b
      | refine stp ?_
      | refine TQ.finC ?_
      | refine TQ.finC2 ?_
      | refine TQ.finC3 ?_
      | refine ⟨fun hc => ?_, fun hc => ?_⟩
      | refine Ei.f ?_
      | refine ⟨?_, ?_⟩
      | intro b
      | exact absurd rfl hc
      | exact absurd hc (by decide)
      | omega
      | (dsimp only; omega)
      | fail)
theorem rnew_ok (p at_ n : Nat) (bs : List UInt8) (lt : List Bool) (h0 : 0 < sizeE n) (ha : at_ % 16 = 0) (ha2 : at_ ≤ 1048576) (hn : n ≤ 256) (hS2 : sizeE n ≤ 10000) (hp : partN n ≤ sizeE n) (hw : (writeE bs lt at_ (List.replicate (sizeE n) 0) false 11).1 = 0) (hl : (turnE lt (at_ + partN n) (sizeE n - partN n) true 11).1 = 0) :
    Sat Try.prog 26 [.pointer (some ⟨p, 0, none⟩), .int .u32 at_, .int .i64 n] [memA p bs lt] (fun u L' => ∃ r, u = .tuple #[.pointer (some ⟨r, 0, none⟩), .int .i64 0] ∧ L' = [rgA r p at_ [] (List.replicate n false) 0 0 false, memA p (writeE bs lt at_ (List.replicate (sizeE n) 0) false 11).2 (turnE lt (at_ + partN n) (sizeE n - partN n) true 11).2]) := by
  all_goals
    refine Sat.enter Try.func26 rfl Try.ntmps26 rfl (fun c R => ?_)
    try simp only [List.cons_append, List.nil_append]
    repeat' (first
      | (refine finAt ?_; exact absurd hw (by assumption))
      | (refine finAt ?_; exact absurd hl (by assumption))
      | (refine finAt ?_; rw [rep_bool]; exact Fini.of ⟨_, rfl, rfl⟩ (by apply Imp.shutR; repeat first | exact Imp.refl _ | (apply Imp.pull; focus ((repeat first | exact Del.head _ _ | apply Del.tail); done)) | (refine Imp.famN ?_) | apply Imp.drop))
      | (rw [List.length_replicate]; omega)
      | refine And.intro (fun hc => ?_) (fun hc => ?_)
      | refine And.intro ?_ ?_
      | intro b
      | refine stp ?_
      | refine TQ.finC ?_
      | refine TQ.finC2 ?_
      | refine TQ.finC3 ?_
      | refine ⟨fun hc => ?_, fun hc => ?_⟩
      | refine Ei.f ?_
      | refine ⟨?_, ?_⟩
      | intro b
      | exact absurd rfl hc
      | exact absurd hc (by decide)
      | omega
      | (dsimp only; omega)
      | fail)

end Go.Proofs.Ytfgpnipnaaeafaa


namespace Go.Proofs.Ytfgpnipnaaeafaa
open Go Pw
set_option maxRecDepth 20000
set_option maxHeartbeats 4000000
set_option synthInstance.maxHeartbeats 400000
set_option synthInstance.maxSize 4000
set_option maxHeartbeats 4000000

theorem flags_nil (n : Nat) : flags n [] = List.replicate n false := by
  refine (flags_ext (by simp) fun k hk => ?_).symm
  rw [List.getElem?_replicate, if_pos hk]
  simp [inS_nil]
theorem mnew_at (n : Nat) (h1 : 1 ≤ n) (h2 : n ≤ 1048576) : Sat Try.prog 8 [.int .i64 n] [] (fun v L' => ∃ p, v = .tuple #[.pointer (some ⟨p, 0, none⟩), .int .i64 0] ∧ L' = [memA p (List.replicate n 0) (List.replicate n false)]) := by
  refine (new_ok n h1 h2).post ?_
  rintro v L' ⟨p, b, rfl, rfl⟩
  refine ⟨_, Imp.shutA1 (b, .slice none 0 0, []) ⟨by rw [List.length_replicate]; exact h2, trivial, by rw [List.length_replicate, flags_nil]⟩ ?_, p, rfl, rfl⟩
  dsimp only
  have e : (List.replicate n (Value.int .u8 0)) = (List.replicate n (0 : UInt8)).map byteV := by simp [byteV]
  rw [List.length_replicate, e]
  exact Imp.pull (.head _ _) (Imp.pull (.head _ _) (Imp.slN (Imp.refl _)))
instance {L : List Assn} {x : Int} {n : Nat} [hx : Nn x n] : FnR Try.prog 8 [.int .i64 x] L (fun kk => Vc (1 ≤ n ∧ n ≤ 1048576) (∀ p, kk (.tuple #[.pointer (some ⟨p, 0, none⟩), .int .i64 0]) (memA p (List.replicate n 0) (List.replicate n false) :: L))) :=
  ⟨fun kk h => ⟨_, L, _, by rw [hx.h]; exact mnew_at n h.l.1 h.l.2, .nil _, fun v L' hv => by obtain ⟨p, f1, f2⟩ := hv; rw [f1, f2]; exact h.r p⟩⟩
instance {L R : List Assn} {p a n : Nat} {x y : Int} {bs : List UInt8} {lt : List Bool} [hm : MemAt L p bs lt R] [hx : Nn x a] [hy : Nn y n] : FnR Try.prog 26 [.pointer (some ⟨p, 0, none⟩), .int .u32 x, .int .i64 y] L (fun kk => Vc (0 < sizeE (n : Nat) ∧ a % 16 = 0 ∧ a ≤ 1048576 ∧ n ≤ 256 ∧ sizeE (n : Nat) ≤ 10000 ∧ partN n ≤ sizeE (n : Nat) ∧ (writeE bs lt a (List.replicate (sizeE (n : Nat)) 0) false 11).1 = 0 ∧ (turnE lt (a + partN n) (sizeE (n : Nat) - partN n) true 11).1 = 0) (∀ r, kk (.tuple #[.pointer (some ⟨r, 0, none⟩), .int .i64 0]) (rgA r p a [] (List.replicate n false) 0 0 false :: memA p (writeE bs lt a (List.replicate (sizeE (n : Nat)) 0) false 11).2 (turnE lt (a + partN n) (sizeE (n : Nat) - partN n) true 11).2 :: R))) :=
  ⟨fun kk h => by
    obtain ⟨⟨h0, h1, h2, h3, h4, h5, h6, h7⟩, h9⟩ := h
    exact ⟨_, R, _, by rw [hx.h, hy.h]; exact rnew_ok p a n bs lt h0 h1 h2 h3 h4 h5 h6 h7, .cons hm.h (.nil _), fun v L' hv => by obtain ⟨r, f1, f2⟩ := hv; rw [f1, f2]; exact h9 r⟩⟩
instance {L : List Assn} {x : Int} : FnR Try.prog 26 [.pointer none, .int .u32 0, .int .i64 x] L (fun kk => kk (.tuple #[.pointer none, .int .i64 1]) L) := ⟨fun kk h => ⟨[], L, _, rnew_nil x, .nil _, fun v L' hv => by rw [hv.1, hv.2]; exact h⟩⟩
instance {L : List Assn} {x : Int} {n : Nat} [hx : Nn x n] : FnR Try.prog 34 [.pointer none, .int .u16 x] L (fun kk => kk (.tuple #[.slice none 0 0, .int .i64 1]) L) := ⟨fun kk h => ⟨[], L, _, by rw [hx.h]; exact chain_nil n, .nil _, fun v L' hv => by rw [hv.1, hv.2]; exact h⟩⟩
instance {L : List Assn} : FnR Try.prog 32 [.pointer none, .slice none 0 0] L (fun kk => kk (.tuple #[.int .u16 0, .int .i64 1]) L) := ⟨fun kk h => ⟨[], L, _, add_nil, .nil _, fun v L' hv => by rw [hv.1, hv.2]; exact h⟩⟩
instance {L : List Assn} : FnR Try.prog 59 [.pointer none] L (fun kk => kk (.tuple #[.agg #[.int .u16 0, .int .u32 0], .bool false, .int .i64 1]) L) := ⟨fun kk h => ⟨[], L, _, poll_nil, .nil _, fun v L' hv => by rw [hv.1, hv.2]; exact h⟩⟩
instance {L : List Assn} : FnR Try.prog 36 [.pointer none] L (fun kk => kk (.int .u32 0) L) := ⟨fun kk h => ⟨[], L, _, used_nil, .nil _, fun v L' hv => by rw [hv.1, hv.2]; exact h⟩⟩
instance {L : List Assn} : FnR Try.prog 14 [.pointer none] L (fun kk => kk (.int .u32 0) L) := ⟨fun kk h => ⟨[], L, _, avail_nil, .nil _, fun v L' hv => by rw [hv.1, hv.2]; exact h⟩⟩
instance {L : List Assn} : FnR Try.prog 68 [.pointer none] L (fun kk => kk (.int .i64 0) L) := ⟨fun kk h => ⟨[], L, _, left_nil, .nil _, fun v L' hv => by rw [hv.1, hv.2]; exact h⟩⟩

/-! Numbers in memory. -/
theorem putB_get {bs s : List UInt8} {a k : Nat} (h : a + s.length ≤ bs.length) : (putB bs a s)[k]? = if a ≤ k ∧ k < a + s.length then s[k - a]? else bs[k]? := by
  unfold putB
  by_cases h1 : k < a
  · rw [if_neg (by omega), List.getElem?_append_left (by simp; omega), List.getElem?_append_left (by simp; omega), List.getElem?_take, if_pos h1]
  · by_cases h2 : k < a + s.length
    · rw [if_pos (by omega), List.getElem?_append_left (by simp; omega), List.getElem?_append_right (by simp; omega)]
      congr 1
      simp; omega
    · rw [if_neg (by omega), List.getElem?_append_right (by simp; omega), List.getElem?_drop]
      congr 1
      simp; omega
theorem numE_eq {bs cs : List UInt8} {a b n : Nat} (h1 : a + n ≤ bs.length) (h2 : b + n ≤ cs.length) (h : ∀ i, i < n → bs[a + i]? = cs[b + i]?) : numE bs a n = numE cs b n := by
  unfold numE
  rw [if_pos h1, if_pos h2]
  congr 2
  apply List.ext_getElem?
  intro i
  rw [List.getElem?_take, List.getElem?_take]
  split
  · rw [List.getElem?_drop, List.getElem?_drop]; exact h i (by assumption)
  · rfl
theorem leN_leB' (x : Nat) : ∀ n, leN (leB x n) = x % 256 ^ n
  | 0 => by simp [leB, leN]; omega
  | n + 1 => by
    have h1 : leB x (n + 1) = leB x n ++ [UInt8.ofNat (x / 2 ^ (8 * n) % 256)] := by simp [leB, List.range_succ]
    rw [h1, leN_append, leN_leB' x n, leB_len, Nat.pow_succ]
    have h2 : leN [UInt8.ofNat (x / 2 ^ (8 * n) % 256)] = x / 256 ^ n % 256 := by
      have e : (256 : Nat) ^ n = 2 ^ (8 * n) := by rw [Nat.pow_mul]
      rw [e]
      simp [leN]
    rw [h2, Nat.mod_mul]
theorem leN_leB {x n : Nat} (h : x < 256 ^ n) : leN (leB x n) = x := by rw [leN_leB', Nat.mod_eq_of_lt h]
theorem numE_leB {x n : Nat} (h : x < 256 ^ n) : (numE (leB x n) 0 n).1 = x := by
  unfold numE
  rw [if_pos (by rw [leB_len]; omega), List.drop_zero, List.take_of_length_le (by rw [leB_len]; omega)]
  exact leN_leB h
theorem numE_keep {lt : List Bool} {bs bs' : List UInt8} {a n : Nat} (h : KeepP lt bs bs') (hl : ∀ i, i < n → lt[a + i]? = some true) : numE bs' a n = numE bs a n := by
  by_cases hn : a + n ≤ bs.length
  · exact numE_eq (by rw [h.len]; exact hn) hn fun i hi => h.keep _ (hl i hi)
  · unfold numE
    rw [if_neg (by rw [h.len]; exact hn), if_neg hn]
theorem writeE_ok {bs s : List UInt8} {lt : List Bool} {a e : Nat} {x : Bool} (h : a + s.length ≤ bs.length) (h2 : allB lt a s.length x = true) : writeE bs lt a s x e = (0, putB bs a s) := by
  unfold writeE; rw [if_pos h, if_pos h2]

/-- Buffers, as cells. -/
class BufL (xs : List Value) (l : outParam (List Bf)) : Prop where h : l.flatMap bufV = xs
instance (priority := 1100) {l : List Bf} : BufL (l.flatMap bufV) l := ⟨rfl⟩
instance : BufL [] [] := ⟨rfl⟩
instance {x y : Int} {a b : Nat} {z : Bool} {xs : List Value} {l : List Bf} [h1 : Nn x a] [h2 : Nn y b] [h : BufL xs l] : BufL (.int .u32 x :: .int .u32 y :: .bool z :: xs) (⟨a, b, z⟩ :: l) := ⟨by rw [← h.h, h1.h, h2.h]; rfl⟩
instance (priority := 900) {L R : List Assn} {r p at_ nx ls k m : Nat} {br : Bool} {a : Option Addr} {X : XC} {l : List Bf} {xs : List Value} {tk : List Bool} {bs : List UInt8} {lt : List Bool} {R1 R2 : List Assn} [h1 : RgAt L r p at_ X tk nx ls br R1] [h2 : MemAt R1 p bs lt R2] [h3 : SlAt R2 (.slice a m k) 90 (2 + 1) m xs R] [hl : BufL xs l] : FnR Try.prog 32 [.pointer (some ⟨r, 0, none⟩), .slice a m k] L (fun kk => Vc (m = l.length ∧ RgOk at_ bs.length X tk nx ls ∧ (∀ b ∈ l, b.ok) ∧ l.length < 9223372036854775808) (∀ hd e bs' lt' X' tk' nx', AddP at_ bs lt l X tk nx br hd e bs' lt' X' tk' nx' → kk (.tuple #[.int .u16 (hd : Nat), .int .i64 (e : Nat)]) (rgA r p at_ X' tk' nx' ls br :: memA p bs' lt' :: Pw.sl 90 (2 + 1) (.slice a m k) m (l.flatMap bufV) :: R))) :=
  ⟨fun kk h => by
    obtain ⟨⟨rfl, e1, e2, e3⟩, h9⟩ := h
    have h4 := h3.h
    rw [← hl.h] at h4
    exact ⟨_, R, _, add_at e1 e2 e3, .cons h1.h (.cons h2.h (.cons h4 (.nil _))), fun v L' hv => by obtain ⟨hd, e, bs', lt', X', tk', nx', f1, f2, f3⟩ := hv; rw [f2, f3]; exact h9 _ _ _ _ _ _ _ f1⟩⟩
theorem cntF_rep (n : Nat) : ∀ i, i ≤ n → cntF (List.replicate n false) i = i
  | 0, _ => by simp [cntF]
  | i + 1, hi => by
    rw [cntF_succ _ _ (by rw [List.length_replicate]; omega), cntF_rep n i (by omega)]
    have : gt (List.replicate n false) i = false := by unfold gt; simp [List.getD_eq_getElem?_getD, List.getElem?_replicate]; split <;> rfl
    rw [this]; rfl
theorem rg0 {at_ N n : Nat} (h1 : 1 ≤ n) (h2 : n ≤ 256) (h3 : at_ ≤ 1048576) (h4 : N ≤ 1048576) : RgOk at_ N [] (List.replicate n false) 0 0 :=
  ⟨by rw [List.length_replicate]; omega, by rw [List.length_replicate]; omega, h3, h4, by omega, by omega, (fun y h => absurd h List.not_mem_nil), (fun y h => absurd h List.not_mem_nil), List.nodup_nil, (fun m h => absurd h List.not_mem_nil), by rw [List.length_replicate, cntF_rep n n (Nat.le_refl _)]; rfl⟩

end Go.Proofs.Ytfgpnipnaaeafaa

