/- Lemmas for the proofs of this seat: no statement of the seat is claimed here. -/
import Derived.Test.YtcmafjngfcablaaKp
import Derived.Test.YtcmafjngfcablaaKr
import Derived.Test.YtcmafjngfcablaaKc
set_option linter.all false

namespace Go.Proofs.Ytcmafjngfcablaa
open Go Pw
set_option maxRecDepth 20000
set_option maxHeartbeats 4000000
set_option synthInstance.maxHeartbeats 400000
set_option synthInstance.maxSize 4000
set_option maxHeartbeats 8000000

theorem leB_set' {x n i : Nat} (h : i < n) : (leB x i ++ List.replicate (n - i) 0).set i (UInt8.ofNat (x / 2 ^ (8 * i))) = leB x (i + 1) ++ List.replicate (n - (i + 1)) 0 := by
  have h0 := leB_set (x := x) h
  have h1 : (.int .u8 ((x / 2 ^ (8 * i) % 256 : Nat) : Int) : Value) = byteV (UInt8.ofNat (x / 2 ^ (8 * i))) := by
    simp [byteV]
  rw [h1, ← List.map_set] at h0
  have inj : ∀ a b : UInt8, byteV a = byteV b → a = b := fun a b e => by
    simp only [byteV, Value.int.injEq, true_and] at e
    exact UInt8.toNat_inj.1 (by omega)
  have := List.map_inj_right (f := byteV) (fun a b => inj a b) |>.1 h0
  exact this
theorem imp_le {v : Value} {n x : Nat} {L R : List Assn} (h : Del (Pw.sl 5 (0 + 1) v n ((List.replicate n 0).map byteV)) L R) : Imp L (Pw.sl 5 (0 + 1) v n ((leB x 0 ++ List.replicate (n - 0) 0).map byteV) :: R) := by
  have e : leB x 0 ++ List.replicate (n - 0) 0 = List.replicate n 0 := by simp [leB]
  rw [e]
  exact Imp.pull h (Imp.refl R)
instance {n : Nat} : Inv byteV (.int .u8 ((n % 256 : Nat) : Int)) (UInt8.ofNat n) True := ⟨fun _ => by simp [byteV]⟩
theorem bytesL_spec (x n : Nat) (hx : x < 18446744073709551616) (hn : n ≤ 8) :
    Sat Try.prog 12 [.int .u64 x, .int .i64 n] [] (fun u L' => u = str (leB x n) ∧ L' = []) := by
  have hgo : True := trivial
  all_goals
    refine Sat.enter Try.func12 rfl Try.ntmps12 rfl (fun c R => ?_)
    try simp only [List.cons_append, List.nil_append]
    repeat' (first
      | (refine T.atB 0 ?_; obtain ⟨b4, hb4⟩ : ∃ x, x = b := ⟨_, rfl⟩; subst hb4; refine T.ent (Ent.imp (imp_le (x := x) (by repeat first | exact Del.head _ _ | apply Del.tail))) ?_; refine T.lpa 0 [(0, _), (1, _), (5, _)] (0 : Nat) (fun i => [(6, .int .i64 (i : Nat))]) (fun i => [Pw.sl 5 (0 + 1) (.slice (some ⟨b4, 0, none⟩) n n) n ((leB x i ++ List.replicate (n - i) 0).map byteV)]) (fun i => i ≤ n) (fun i => n - i) (Nat.zero_le _) ?_; rintro i g hi; have hll : i < n → i < (leB x i ++ List.replicate (n - i) 0).length := (fun h => by rw [List.length_append, leB_len, List.length_replicate]; omega); simp only [List.cons_append, List.nil_append, appR])
      | (refine TQ.atL ?_; rw [leB_set' (by assumption)]; refine TQ.rd (i + 1 : Nat) rfl ⟨rfl, rfl, rfl, rfl, trivial⟩ (by first | omega | fail) (by omega) (Ent.imp (by repeat first | exact Imp.refl _ | (apply Imp.pull; focus ((repeat first | exact Del.head _ _ | apply Del.tail); done)) | apply Imp.drop)))
      | (refine T.atR 6 ?_; clear hgo; obtain rfl : i = n := (by omega); rw [Nat.sub_self, List.replicate_zero, List.append_nil])
      | (exact Fini.of ⟨rfl, rfl⟩ (by repeat first | exact Imp.refl _ | (apply Imp.pull; focus ((repeat first | exact Del.head _ _ | apply Del.tail); done)) | apply Imp.drop))
      | exact hll (by assumption)
      | refine And.intro (fun hc => ?_) (fun hc => ?_)
      | refine And.intro ?_ ?_
      | intro b
      | refine stp ?_
      | refine TQ.finC ?_
      | refine TQ.finC2 ?_
      | refine TQ.finC3 ?_
      | refine ⟨fun hc => ?_, fun hc => ?_⟩
      | refine Ei.f ?_
      | refine ⟨?_, ?_⟩
      | intro b
      | exact absurd rfl hc
      | exact absurd hc (by decide)
      | omega
      | (dsimp only; omega)
      | fail)
theorem waits_spec (r at_ n nx ls mp : Nat) (vm vt : Value) (br : Bool) (X : XC) :
    Sat Try.prog 14 [.pointer (some ⟨r, 0, none⟩)] [row 70 r [vm, .int .u32 at_, .int .i64 n, .map (some mp), vt, .int .u16 nx, .int .u16 ls, .bool br], mapJ chV mp (.u16, X)] (fun u L' => u = .int .i64 (X.length : Nat) ∧ L' = [row 70 r [vm, .int .u32 at_, .int .i64 n, .map (some mp), vt, .int .u16 nx, .int .u16 ls, .bool br], mapJ chV mp (.u16, X)]) := by
  all_goals
    refine Sat.enter Try.func14 rfl Try.ntmps14 rfl (fun c R => ?_)
    try simp only [List.cons_append, List.nil_append]
    repeat' (first
      | (exact Fini.of ⟨rfl, rfl⟩ (by repeat first | exact Imp.refl _ | (apply Imp.pull; focus ((repeat first | exact Del.head _ _ | apply Del.tail); done)) | apply Imp.drop))
      | refine And.intro (fun hc => ?_) (fun hc => ?_)
      | refine And.intro ?_ ?_
      | intro b
      | refine stp ?_
      | refine TQ.finC ?_
      | refine TQ.finC2 ?_
      | refine TQ.finC3 ?_
      | refine ⟨fun hc => ?_, fun hc => ?_⟩
      | refine Ei.f ?_
      | refine ⟨?_, ?_⟩
      | intro b
      | exact absurd rfl hc
      | exact absurd hc (by decide)
      | omega
      | (dsimp only; omega)
      | fail)
instance {L : List Assn} {x y : Int} {a n : Nat} [hx : Nn x a] [hy : Nn y n] : FnR Try.prog 12 [.int .u64 x, .int .i64 y] L (fun kk => Vc (a < 18446744073709551616 ∧ n ≤ 8) (kk (str (leB a n)) L)) := ⟨fun kk h => ⟨[], L, _, by rw [hx.h, hy.h]; exact bytesL_spec a n h.l.1 h.l.2, .nil _, fun v L' hq => by rw [hq.1, hq.2]; exact h.r⟩⟩

/-- The ring, but for the memory. -/
def rgA (r p at_ : Nat) (X : XC) (tk : List Bool) (nx ls : Nat) (br : Bool) : Assn :=
  exA (fun _ : Nat × Option Addr × Nat => True) fun x => [row 70 r [.pointer (some ⟨p, 0, none⟩), .int .u32 at_, .int .i64 (tk.length : Nat), .map (some x.1), .slice x.2.1 tk.length x.2.2, .int .u16 nx, .int .u16 ls, .bool br], mapJ chV x.1 (.u16, X), Pw.sl 4 (0 + 1) (.slice x.2.1 tk.length x.2.2) tk.length (tk.map Value.bool), famC X]
class RgAt (L : List Assn) (r : Nat) (p at_ : outParam Nat) (X : outParam XC) (tk : outParam (List Bool)) (nx ls : outParam Nat) (br : outParam Bool) (R : outParam (List Assn)) : Prop where h : Del (rgA r p at_ X tk nx ls br) L R
instance (priority := 1100) {L : List Assn} {r p at_ : Nat} {X : XC} {tk : List Bool} {nx ls : Nat} {br : Bool} : RgAt (rgA r p at_ X tk nx ls br :: L) r p at_ X tk nx ls br L := ⟨.head _ _⟩
instance {A : Assn} {L R : List Assn} {r p at_ : Nat} {X : XC} {tk : List Bool} {nx ls : Nat} {br : Bool} [h : RgAt L r p at_ X tk nx ls br R] : RgAt (A :: L) r p at_ X tk nx ls br (A :: R) := ⟨.tail h.h⟩
theorem used_at {r p at_ : Nat} {X : XC} {tk : List Bool} {nx ls : Nat} {br : Bool} (h : tk.length ≤ 256 ∧ at_ ≤ 1048576) : Sat Try.prog 11 [.pointer (some ⟨r, 0, none⟩)] [rgA r p at_ X tk nx ls br] (fun u L' => u = .int .u32 (at_ + partN tk.length : Nat) ∧ L' = [rgA r p at_ X tk nx ls br]) := by
  refine Sat.openA1 ?_
  rintro ⟨mp, ta, tc⟩ -
  refine Sat.imp ?_ (((used_spec r at_ tk.length nx ls (.pointer (some ⟨p, 0, none⟩)) (.map (some mp)) (.slice ta tk.length tc) br h.1 h.2).frame (F := [mapJ chV mp (.u16, X), Pw.sl 4 (0 + 1) (.slice ta tk.length tc) tk.length (tk.map Value.bool), famC X])).post ?_)
  rotate_left
  · rintro u L' ⟨_, ⟨rfl, rfl⟩, rfl⟩
    exact ⟨_, Imp.shutA1 (mp, ta, tc) trivial (by simp only [List.cons_append, List.nil_append]; repeat first | exact Imp.refl _ | (apply Imp.pull; focus ((repeat first | exact Del.head _ _ | apply Del.tail); done)) | apply Imp.drop), rfl, rfl⟩
  · dsimp only
    simp only [List.cons_append, List.nil_append]
    repeat first | exact Imp.refl _ | (apply Imp.pull; focus ((repeat first | exact Del.head _ _ | apply Del.tail); done)) | apply Imp.drop
instance {L R : List Assn} {r p at_ : Nat} {X : XC} {tk : List Bool} {nx ls : Nat} {br : Bool} [h1 : RgAt L r p at_ X tk nx ls br R] : FnR Try.prog 11 [.pointer (some ⟨r, 0, none⟩)] L (fun kk => Vc (tk.length ≤ 256 ∧ at_ ≤ 1048576) (kk (.int .u32 (at_ + partN tk.length : Nat)) (rgA r p at_ X tk nx ls br :: R))) :=
  ⟨fun kk h => ⟨_, R, _, used_at h.l, .cons h1.h (.nil _), fun v L' hv => by rw [hv.1, hv.2]; exact h.r⟩⟩
theorem avail_at {r p at_ : Nat} {X : XC} {tk : List Bool} {nx ls : Nat} {br : Bool} (h : tk.length ≤ 256 ∧ at_ ≤ 1048576) : Sat Try.prog 18 [.pointer (some ⟨r, 0, none⟩)] [rgA r p at_ X tk nx ls br] (fun u L' => u = .int .u32 (at_ + 16 * tk.length : Nat) ∧ L' = [rgA r p at_ X tk nx ls br]) := by
  refine Sat.openA1 ?_
  rintro ⟨mp, ta, tc⟩ -
  refine Sat.imp ?_ (((avail_spec r at_ tk.length nx ls (.pointer (some ⟨p, 0, none⟩)) (.map (some mp)) (.slice ta tk.length tc) br h.1 h.2).frame (F := [mapJ chV mp (.u16, X), Pw.sl 4 (0 + 1) (.slice ta tk.length tc) tk.length (tk.map Value.bool), famC X])).post ?_)
  rotate_left
  · rintro u L' ⟨_, ⟨rfl, rfl⟩, rfl⟩
    exact ⟨_, Imp.shutA1 (mp, ta, tc) trivial (by simp only [List.cons_append, List.nil_append]; repeat first | exact Imp.refl _ | (apply Imp.pull; focus ((repeat first | exact Del.head _ _ | apply Del.tail); done)) | apply Imp.drop), rfl, rfl⟩
  · dsimp only
    simp only [List.cons_append, List.nil_append]
    repeat first | exact Imp.refl _ | (apply Imp.pull; focus ((repeat first | exact Del.head _ _ | apply Del.tail); done)) | apply Imp.drop
instance {L R : List Assn} {r p at_ : Nat} {X : XC} {tk : List Bool} {nx ls : Nat} {br : Bool} [h1 : RgAt L r p at_ X tk nx ls br R] : FnR Try.prog 18 [.pointer (some ⟨r, 0, none⟩)] L (fun kk => Vc (tk.length ≤ 256 ∧ at_ ≤ 1048576) (kk (.int .u32 (at_ + 16 * tk.length : Nat)) (rgA r p at_ X tk nx ls br :: R))) :=
  ⟨fun kk h => ⟨_, R, _, avail_at h.l, .cons h1.h (.nil _), fun v L' hv => by rw [hv.1, hv.2]; exact h.r⟩⟩
theorem broken_at {r p at_ : Nat} {X : XC} {tk : List Bool} {nx ls : Nat} {br : Bool} (h : tk.length ≤ 256 ∧ at_ ≤ 1048576) : Sat Try.prog 16 [.pointer (some ⟨r, 0, none⟩)] [rgA r p at_ X tk nx ls br] (fun u L' => u = .bool br ∧ L' = [rgA r p at_ X tk nx ls br]) := by
  refine Sat.openA1 ?_
  rintro ⟨mp, ta, tc⟩ -
  refine Sat.imp ?_ (((broken_spec r at_ tk.length nx ls (.pointer (some ⟨p, 0, none⟩)) (.map (some mp)) (.slice ta tk.length tc) br h.1 h.2).frame (F := [mapJ chV mp (.u16, X), Pw.sl 4 (0 + 1) (.slice ta tk.length tc) tk.length (tk.map Value.bool), famC X])).post ?_)
  rotate_left
  · rintro u L' ⟨_, ⟨rfl, rfl⟩, rfl⟩
    exact ⟨_, Imp.shutA1 (mp, ta, tc) trivial (by simp only [List.cons_append, List.nil_append]; repeat first | exact Imp.refl _ | (apply Imp.pull; focus ((repeat first | exact Del.head _ _ | apply Del.tail); done)) | apply Imp.drop), rfl, rfl⟩
  · dsimp only
    simp only [List.cons_append, List.nil_append]
    repeat first | exact Imp.refl _ | (apply Imp.pull; focus ((repeat first | exact Del.head _ _ | apply Del.tail); done)) | apply Imp.drop
instance {L R : List Assn} {r p at_ : Nat} {X : XC} {tk : List Bool} {nx ls : Nat} {br : Bool} [h1 : RgAt L r p at_ X tk nx ls br R] : FnR Try.prog 16 [.pointer (some ⟨r, 0, none⟩)] L (fun kk => Vc (tk.length ≤ 256 ∧ at_ ≤ 1048576) (kk (.bool br) (rgA r p at_ X tk nx ls br :: R))) :=
  ⟨fun kk h => ⟨_, R, _, broken_at h.l, .cons h1.h (.nil _), fun v L' hv => by rw [hv.1, hv.2]; exact h.r⟩⟩
theorem left_at {r p at_ : Nat} {X : XC} {tk : List Bool} {nx ls : Nat} {br : Bool} (h : tk.length ≤ 256) : Sat Try.prog 15 [.pointer (some ⟨r, 0, none⟩)] [rgA r p at_ X tk nx ls br] (fun u L' => u = .int .i64 (cntF tk tk.length : Nat) ∧ L' = [rgA r p at_ X tk nx ls br]) := by
  refine Sat.openA1 ?_
  rintro ⟨mp, ta, tc⟩ -
  refine Sat.imp ?_ (((left_spec r at_ tk.length nx ls tc (.pointer (some ⟨p, 0, none⟩)) (.map (some mp)) br ta tk h).frame (F := [mapJ chV mp (.u16, X), famC X])).post ?_)
  rotate_left
  · rintro u L' ⟨_, ⟨rfl, rfl⟩, rfl⟩
    exact ⟨_, Imp.shutA1 (mp, ta, tc) trivial (by simp only [List.cons_append, List.nil_append]; repeat first | exact Imp.refl _ | (apply Imp.pull; focus ((repeat first | exact Del.head _ _ | apply Del.tail); done)) | apply Imp.drop), rfl, rfl⟩
  · dsimp only
    simp only [List.cons_append, List.nil_append]
    repeat first | exact Imp.refl _ | (apply Imp.pull; focus ((repeat first | exact Del.head _ _ | apply Del.tail); done)) | apply Imp.drop
instance {L R : List Assn} {r p at_ : Nat} {X : XC} {tk : List Bool} {nx ls : Nat} {br : Bool} [h1 : RgAt L r p at_ X tk nx ls br R] : FnR Try.prog 15 [.pointer (some ⟨r, 0, none⟩)] L (fun kk => Vc (tk.length ≤ 256) (kk (.int .i64 (cntF tk tk.length : Nat)) (rgA r p at_ X tk nx ls br :: R))) :=
  ⟨fun kk h => ⟨_, R, _, left_at h.l, .cons h1.h (.nil _), fun v L' hv => by rw [hv.1, hv.2]; exact h.r⟩⟩
theorem waits_at {r p at_ : Nat} {X : XC} {tk : List Bool} {nx ls : Nat} {br : Bool} (h : True) : Sat Try.prog 14 [.pointer (some ⟨r, 0, none⟩)] [rgA r p at_ X tk nx ls br] (fun u L' => u = .int .i64 (X.length : Nat) ∧ L' = [rgA r p at_ X tk nx ls br]) := by
  refine Sat.openA1 ?_
  rintro ⟨mp, ta, tc⟩ -
  refine Sat.imp ?_ (((waits_spec r at_ tk.length nx ls mp (.pointer (some ⟨p, 0, none⟩)) (.slice ta tk.length tc) br X).frame (F := [Pw.sl 4 (0 + 1) (.slice ta tk.length tc) tk.length (tk.map Value.bool), famC X])).post ?_)
  rotate_left
  · rintro u L' ⟨_, ⟨rfl, rfl⟩, rfl⟩
    exact ⟨_, Imp.shutA1 (mp, ta, tc) trivial (by simp only [List.cons_append, List.nil_append]; repeat first | exact Imp.refl _ | (apply Imp.pull; focus ((repeat first | exact Del.head _ _ | apply Del.tail); done)) | apply Imp.drop), rfl, rfl⟩
  · dsimp only
    simp only [List.cons_append, List.nil_append]
    repeat first | exact Imp.refl _ | (apply Imp.pull; focus ((repeat first | exact Del.head _ _ | apply Del.tail); done)) | apply Imp.drop
instance {L R : List Assn} {r p at_ : Nat} {X : XC} {tk : List Bool} {nx ls : Nat} {br : Bool} [h1 : RgAt L r p at_ X tk nx ls br R] : FnR Try.prog 14 [.pointer (some ⟨r, 0, none⟩)] L (fun kk => Vc (True) (kk (.int .i64 (X.length : Nat)) (rgA r p at_ X tk nx ls br :: R))) :=
  ⟨fun kk h => ⟨_, R, _, waits_at h.l, .cons h1.h (.nil _), fun v L' hv => by rw [hv.1, hv.2]; exact h.r⟩⟩

end Go.Proofs.Ytcmafjngfcablaa


namespace Go.Proofs.Ytcmafjngfcablaa
open Go Pw
set_option maxRecDepth 20000
set_option maxHeartbeats 4000000
set_option synthInstance.maxHeartbeats 400000
set_option synthInstance.maxSize 4000
set_option maxHeartbeats 4000000

def dsX (X : XC) : List Nat := X.flatMap fun y => y.2.d
structure RgOk (at_ N : Nat) (X : XC) (tk : List Bool) (nx ls : Nat) : Prop where
  n0 : 0 < tk.length
  n1 : tk.length ≤ 256
  a : at_ ≤ 1048576
  N : N ≤ 1048576
  nx : nx < 65536
  ls : ls < 65536
  ch : ∀ y ∈ X, ChOk tk.length y.2
  hd : ∀ y ∈ X, 0 < y.2.d.length ∧ gt y.2.d 0 = y.1
  nd : (dsX X).Nodup
  tk1 : ∀ m ∈ dsX X, gt tk m = true
  cnt : cntF tk tk.length + (dsX X).length = tk.length
theorem dsX_app (A B : XC) : dsX (A ++ B) = dsX A ++ dsX B := List.flatMap_append
theorem dsX_cons (y : Nat × Ch) (B : XC) : dsX (y :: B) = y.2.d ++ dsX B := List.flatMap_cons
theorem mem_ds {X : XC} {y : Nat × Ch} (h : y ∈ X) {m : Nat} (hm : m ∈ y.2.d) : m ∈ dsX X := List.mem_flatMap.2 ⟨y, h, hm⟩
theorem RgOk.key {at_ N : Nat} {X : XC} {tk : List Bool} {nx ls : Nat} (h : RgOk at_ N X tk nx ls) {y : Nat × Ch} (hy : y ∈ X) : y.1 ∈ dsX X := by
  obtain ⟨h1, h2⟩ := h.hd y hy
  rw [← h2]
  exact mem_ds hy (gt_mem h1)
theorem RgOk.keys {at_ N : Nat} {X : XC} {tk : List Bool} {nx ls : Nat} (h : RgOk at_ N X tk nx ls) : (X.map (·.1)).Nodup := by
  have hhd := h.hd
  have hnd := h.nd
  clear h
  induction X with
  | nil => exact List.nodup_nil
  | cons y X ih =>
    rw [dsX_cons, List.nodup_append] at hnd
    rw [List.map_cons, List.nodup_cons]
    refine ⟨fun hm => ?_, ih (fun z hz => hhd z (List.mem_cons_of_mem _ hz)) hnd.2.1⟩
    obtain ⟨z, hz, e⟩ := List.mem_map.1 hm
    obtain ⟨h1, h2⟩ := hhd y List.mem_cons_self
    obtain ⟨h3, h4⟩ := hhd z (List.mem_cons_of_mem _ hz)
    refine hnd.2.2 y.1 (by rw [← h2]; exact gt_mem h1) z.1 (by rw [← h4]; exact mem_ds hz (gt_mem h3)) e.symm
theorem ds_len {X : XC} (h : ∀ y ∈ X, 0 < y.2.d.length) : X.length ≤ (dsX X).length := by
  induction X with
  | nil => simp [dsX]
  | cons y X ih =>
    rw [dsX_cons, List.length_append, List.length_cons]
    have := h y List.mem_cons_self
    have := ih fun z hz => h z (List.mem_cons_of_mem _ hz)
    omega
theorem RgOk.xl {at_ N : Nat} {X : XC} {tk : List Bool} {nx ls : Nat} (h : RgOk at_ N X tk nx ls) : X.length ≤ 256 := by
  have := ds_len (X := X) fun y hy => (h.hd y hy).1
  have := h.cnt
  have := h.n1
  omega
theorem add_len {at_ nx hd e nx' : Nat} {bs bs' : List UInt8} {lt lt' tk tk' : List Bool} {l : List Bf} {X X' : XC} {br : Bool} (h : AddP at_ bs lt l X tk nx br hd e bs' lt' X' tk' nx') : tk'.length = tk.length ∧ bs'.length = bs.length := by
  cases h with
  | dead => exact ⟨rfl, rfl⟩
  | no => exact ⟨rfl, rfl⟩
  | lent => exact ⟨rfl, rfl⟩
  | done _ _ _ _ _ _ _ h2 _ h4 => exact ⟨(st_ok _ (h2.ok rfl).2.2.2).tl, h4.len⟩
theorem add_ok {at_ nx ls hd e nx' : Nat} {bs bs' : List UInt8} {lt lt' tk tk' : List Bool} {l : List Bf} {X X' : XC} {br : Bool} (hl : ∀ b ∈ l, b.ok) (h : AddP at_ bs lt l X tk nx br hd e bs' lt' X' tk' nx') (k : RgOk at_ bs.length X tk nx ls) : RgOk at_ bs'.length X' tk' nx' ls := by
  cases h with
  | dead => exact k
  | no => exact k
  | lent => exact k
  | done _ _ da dk ba bk _ h2 _ h4 =>
    obtain ⟨l1, l8, -, hc⟩ := h2.ok rfl
    have hst := st_ok _ hc
    have htl := hst.tl
    have hdl := hst.dl
    have hx1 := hst.x1
    have hds : dsX (X ++ [(gt (stE tk l.length).1 0, (⟨(stE tk l.length).1, l, da, dk, ba, bk⟩ : Ch))]) = dsX X ++ (stE tk l.length).1 := by
      rw [dsX_app, dsX_cons]; simp [dsX]
    have hlt : ∀ x ∈ dsX X, x < tk.length := fun x hx => by
      obtain ⟨y, hy, hm⟩ := List.mem_flatMap.1 hx
      exact (k.ch y hy).d x hm
    have hlt2 : ∀ x ∈ (stE tk l.length).1, x < tk.length := fun x hx => by
      have := (hst.dd x hx).1; omega
    refine ⟨by rw [htl]; exact k.n0, by rw [htl]; exact k.n1, k.a, by rw [h4.len]; exact k.N, Nat.mod_lt _ (by omega), k.ls, ?_, ?_, ?_, ?_, ?_⟩
    · intro y hy
      rw [htl]
      rcases List.mem_append.1 hy with hy | hy
      · exact k.ch y hy
      · rw [List.mem_singleton] at hy; subst hy
        exact ⟨hlt2, hl, by dsimp only; omega, l8⟩
    · intro y hy
      rcases List.mem_append.1 hy with hy | hy
      · exact k.hd y hy
      · rw [List.mem_singleton] at hy; subst hy
        exact ⟨by dsimp only; omega, rfl⟩
    · rw [hds, List.nodup_append]
      refine ⟨k.nd, hst.nd, fun a ha b hb e => ?_⟩
      have h5 := k.tk1 a ha
      rw [e, (hst.dd b hb).2] at h5
      cases h5
    · intro m hm
      rw [hds, List.mem_append] at hm
      rcases hm with hm | hm
      · exact (hst.tt m (hlt m hm)).2 (.inl (k.tk1 m hm))
      · exact (hst.tt m (hlt2 m hm)).2 (.inr hm)
    · rw [hds, List.length_append, hdl, htl]
      have := hst.cnt
      have := k.cnt
      omega
theorem clr_ok {tk : List Bool} {d : List Nat} (hd : d.Nodup) (hl : ∀ x ∈ d, x < tk.length ∧ gt tk x = true) : ∀ j, j ≤ d.length → (∀ m, gt (clrE tk d j) m = if m ∈ d.take j then false else gt tk m) ∧ cntF (clrE tk d j) tk.length = cntF tk tk.length + j
  | 0, _ => ⟨fun m => by simp [clrE], rfl⟩
  | j + 1, hj => by
    obtain ⟨h1, h2⟩ := clr_ok hd hl j (by omega)
    have hlen := clrE_len tk d j
    obtain ⟨h3, h4⟩ := hl _ (gt_mem (show j < d.length by omega))
    have hn : gt d j ∉ d.take j := fun hm => by
      have e : d = d.take j ++ gt d j :: d.drop (j + 1) := by
        conv => lhs; rw [← List.take_append_drop j d, drop_gt (show j < d.length by omega)]
      rw [e, List.nodup_append] at hd
      exact hd.2.2 _ hm _ List.mem_cons_self rfl
    have h5 : gt (clrE tk d j) (gt d j) = true := by rw [h1, if_neg hn]; exact h4
    have s1 : clrE tk d (j + 1) = (clrE tk d j).set (gt d j) false := rfl
    refine ⟨fun m => ?_, ?_⟩
    · rw [s1, gt_set (by omega), take_gt (show j < d.length by omega), h1]
      by_cases hm : m = gt d j
      · rw [if_pos hm, if_pos (by rw [hm]; simp)]
      · rw [if_neg hm]
        by_cases hm2 : m ∈ d.take j
        · rw [if_pos hm2, if_pos (List.mem_append_left _ hm2)]
        · rw [if_neg hm2, if_neg]
          rw [List.mem_append, List.mem_singleton]
          rintro (h | h)
          · exact hm2 h
          · exact hm h
    · have := cntF_clr (l := clrE tk d j) (z := gt d j) (by omega) h5 tk.length (by omega)
      rw [if_pos (by omega)] at this
      rw [s1]; omega
theorem poll_len {at_ ls hd sz e ls' : Nat} {bs : List UInt8} {lt lt' tk tk' : List Bool} {X X' : XC} {br br' is : Bool} (h : PollP bs lt at_ X tk ls br hd sz is e X' tk' ls' br' lt') : tk'.length = tk.length := by
  cases h with
  | dead => rfl
  | none => rfl
  | breaks => rfl
  | done => exact clrE_len _ _ _
theorem poll_ok {at_ N nx ls hd sz e ls' : Nat} {bs : List UInt8} {lt lt' tk tk' : List Bool} {X X' : XC} {br br' is : Bool} (h : PollP bs lt at_ X tk ls br hd sz is e X' tk' ls' br' lt') (k : RgOk at_ N X tk nx ls) : RgOk at_ N X' tk' nx ls' := by
  cases h with
  | dead => exact k
  | none => exact k
  | breaks => exact k
  | done c _ _ _ hat =>
    obtain ⟨A, B, e1, e2, _⟩ := atJ_split hat
    have hmem := atJ_mem hat
    have hds : dsX X = dsX A ++ (c.d ++ dsX B) := by
      conv => lhs; rw [e1]
      rw [dsX_app, dsX_cons]
    have hds2 : dsX (Pw.delJ X (numE bs (slotE at_ tk.length ls) 4).1) = dsX A ++ dsX B := by rw [e2, dsX_app]
    have hnd := k.nd
    rw [hds, List.nodup_append, List.nodup_append] at hnd
    obtain ⟨na, ⟨nc, nb, ncb⟩, nacb⟩ := hnd
    obtain ⟨c1, c2⟩ := clr_ok (tk := tk) (d := c.d) nc (fun x hx => ⟨(k.ch _ hmem).d x hx, k.tk1 x (mem_ds hmem hx)⟩) c.d.length (Nat.le_refl _)
    have hlen := clrE_len tk c.d c.d.length
    have sub : ∀ y ∈ Pw.delJ X (numE bs (slotE at_ tk.length ls) 4).1, y ∈ X := fun y hy => by
      rw [e2] at hy
      rw [e1, List.mem_append, List.mem_cons]
      rcases List.mem_append.1 hy with h | h
      · exact .inl h
      · exact .inr (.inr h)
    refine ⟨by rw [hlen]; exact k.n0, by rw [hlen]; exact k.n1, k.a, k.N, k.nx, Nat.mod_lt _ (by omega), ?_, ?_, ?_, ?_, ?_⟩
    · intro y hy
      rw [hlen]
      exact k.ch y (sub y hy)
    · intro y hy
      exact k.hd y (sub y hy)
    · rw [hds2, List.nodup_append]
      exact ⟨na, nb, fun a ha b hb => nacb a ha b (List.mem_append_right _ hb)⟩
    · intro m hm
      rw [hds2, List.mem_append] at hm
      rw [c1, List.take_length, if_neg]
      · refine k.tk1 m ?_
        rw [hds, List.mem_append, List.mem_append]
        rcases hm with h | h
        · exact .inl h
        · exact .inr (.inr h)
      · intro hc
        rcases hm with h | h
        · exact nacb m h m (List.mem_append_left _ hc) rfl
        · exact ncb m hc m h rfl
    · have := k.cnt
      rw [hds, List.length_append, List.length_append] at this
      rw [hds2, List.length_append, hlen]
      omega
theorem add_at {r p at_ k nx ls : Nat} {br : Bool} {a : Option Addr} {X : XC} {l : List Bf} {tk : List Bool} {bs : List UInt8} {lt : List Bool} (h : RgOk at_ bs.length X tk nx ls) (hok : ∀ b ∈ l, b.ok) (hln : l.length < 9223372036854775808) : Sat Try.prog 9 [.pointer (some ⟨r, 0, none⟩), .slice a l.length k] [rgA r p at_ X tk nx ls br, memA p bs lt, Pw.sl 37 (2 + 1) (.slice a l.length k) l.length (l.flatMap bufV)] (fun u L' => ∃ hd e bs' lt' X' tk' nx', AddP at_ bs lt l X tk nx br hd e bs' lt' X' tk' nx' ∧ u = .tuple #[.int .u16 (hd : Nat), .int .i64 (e : Nat)] ∧ L' = [rgA r p at_ X' tk' nx' ls br, memA p bs' lt', Pw.sl 37 (2 + 1) (.slice a l.length k) l.length (l.flatMap bufV)]) := by
  refine Sat.openA (.head _ _) ?_
  rintro ⟨mp, ta, tc⟩ -
  refine Sat.imp ?_ ((add_spec r p at_ nx ls mp tc k br a ta X l tk bs lt hok hln (fun y hy => h.tk1 _ (h.key hy)) h.n0 h.n1 h.a h.nx h.N).post ?_)
  rotate_left
  · rintro u L' ⟨hd, e, bs', lt', X', tk', nx', h1, h2, rfl⟩
    have htl := (add_len h1).1
    refine ⟨_, Imp.shutA (L := _) (R := [memA p bs' lt', Pw.sl 37 (2 + 1) (.slice a l.length k) l.length (l.flatMap bufV)]) (mp, ta, tc) trivial ?_, hd, e, bs', lt', X', tk', nx', h1, h2, rfl⟩
    dsimp only
    simp only [List.cons_append, List.nil_append, htl]
    repeat first | exact Imp.refl _ | (apply Imp.pull; focus ((repeat first | exact Del.head _ _ | apply Del.tail); done)) | apply Imp.drop
  · dsimp only
    simp only [List.cons_append, List.nil_append]
    repeat first | exact Imp.refl _ | (apply Imp.pull; focus ((repeat first | exact Del.head _ _ | apply Del.tail); done)) | apply Imp.drop
theorem poll_at {r p at_ nx ls : Nat} {br : Bool} {X : XC} {tk : List Bool} {bs : List UInt8} {lt : List Bool} (h : RgOk at_ bs.length X tk nx ls) : Sat Try.prog 13 [.pointer (some ⟨r, 0, none⟩)] [rgA r p at_ X tk nx ls br, memA p bs lt] (fun u L' => ∃ hd sz is e X' tk' ls' br' lt', PollP bs lt at_ X tk ls br hd sz is e X' tk' ls' br' lt' ∧ u = .tuple #[.agg #[.int .u16 (hd : Nat), .int .u32 (sz : Nat)], .bool is, .int .i64 (e : Nat)] ∧ L' = [rgA r p at_ X' tk' nx ls' br', memA p bs lt']) := by
  refine Sat.openA (.head _ _) ?_
  rintro ⟨mp, ta, tc⟩ -
  refine Sat.imp ?_ ((poll_spec r p at_ nx ls mp tc br ta X tk bs lt h.ch h.n0 h.n1 h.a h.ls h.xl).post ?_)
  rotate_left
  · rintro u L' ⟨hd, sz, is, e, X', tk', ls', br', lt', h1, h2, rfl⟩
    have htl := poll_len h1
    refine ⟨_, Imp.shutA (L := _) (R := [memA p bs lt']) (mp, ta, tc) trivial ?_, hd, sz, is, e, X', tk', ls', br', lt', h1, h2, rfl⟩
    dsimp only
    simp only [List.cons_append, List.nil_append, htl]
    repeat first | exact Imp.refl _ | (apply Imp.pull; focus ((repeat first | exact Del.head _ _ | apply Del.tail); done)) | apply Imp.drop
  · dsimp only
    simp only [List.cons_append, List.nil_append]
    repeat first | exact Imp.refl _ | (apply Imp.pull; focus ((repeat first | exact Del.head _ _ | apply Del.tail); done)) | apply Imp.drop
instance {L R : List Assn} {r p at_ nx ls k m : Nat} {br : Bool} {a : Option Addr} {X : XC} {l : List Bf} {tk : List Bool} {bs : List UInt8} {lt : List Bool} {R1 R2 : List Assn} [h1 : RgAt L r p at_ X tk nx ls br R1] [h2 : MemAt R1 p bs lt R2] [h3 : SlAt R2 (.slice a m k) 37 (2 + 1) m (l.flatMap bufV) R] : FnR Try.prog 9 [.pointer (some ⟨r, 0, none⟩), .slice a m k] L (fun kk => Vc (m = l.length ∧ RgOk at_ bs.length X tk nx ls ∧ (∀ b ∈ l, b.ok) ∧ l.length < 9223372036854775808) (∀ hd e bs' lt' X' tk' nx', AddP at_ bs lt l X tk nx br hd e bs' lt' X' tk' nx' → kk (.tuple #[.int .u16 (hd : Nat), .int .i64 (e : Nat)]) (rgA r p at_ X' tk' nx' ls br :: memA p bs' lt' :: Pw.sl 37 (2 + 1) (.slice a m k) m (l.flatMap bufV) :: R))) :=
  ⟨fun kk h => by
    obtain ⟨⟨rfl, e1, e2, e3⟩, h9⟩ := h
    exact ⟨_, R, _, add_at e1 e2 e3, .cons h1.h (.cons h2.h (.cons h3.h (.nil _))), fun v L' hv => by obtain ⟨hd, e, bs', lt', X', tk', nx', f1, f2, f3⟩ := hv; rw [f2, f3]; exact h9 _ _ _ _ _ _ _ f1⟩⟩
instance {L R : List Assn} {r p at_ nx ls : Nat} {br : Bool} {X : XC} {tk : List Bool} {bs : List UInt8} {lt : List Bool} {R1 : List Assn} [h1 : RgAt L r p at_ X tk nx ls br R1] [h2 : MemAt R1 p bs lt R] : FnR Try.prog 13 [.pointer (some ⟨r, 0, none⟩)] L (fun kk => Vc (RgOk at_ bs.length X tk nx ls) (∀ hd sz is e X' tk' ls' br' lt', PollP bs lt at_ X tk ls br hd sz is e X' tk' ls' br' lt' → kk (.tuple #[.agg #[.int .u16 (hd : Nat), .int .u32 (sz : Nat)], .bool is, .int .i64 (e : Nat)]) (rgA r p at_ X' tk' nx ls' br' :: memA p bs lt' :: R))) :=
  ⟨fun kk h => by
    obtain ⟨e1, h9⟩ := h
    exact ⟨_, R, _, poll_at e1, .cons h1.h (.cons h2.h (.nil _)), fun v L' hv => by obtain ⟨hd, sz, is, e, X', tk', ls', br', lt', f1, f2, f3⟩ := hv; rw [f2, f3]; exact h9 _ _ _ _ _ _ _ _ _ f1⟩⟩

end Go.Proofs.Ytcmafjngfcablaa


namespace Go.Proofs.Ytcmafjngfcablaa
open Go Pw
set_option maxRecDepth 20000
set_option maxHeartbeats 4000000
set_option synthInstance.maxHeartbeats 400000
set_option synthInstance.maxSize 4000
set_option maxHeartbeats 8000000

theorem Imp.famN {L L' : List Assn} (i : Imp L L') : Imp L (famC [] :: L') := i.trans famC_nil
theorem rep_bool {n : Nat} : (List.replicate n [Value.bool false]).flatten = (List.replicate n false).map Value.bool := by simp
theorem Imp.shutR {r p at_ mp n : Nat} {ta : Option Addr} {tc : Nat} {L L' : List Assn} (h : Imp L (row 70 r [.pointer (some ⟨p, 0, none⟩), .int .u32 at_, .int .i64 (n : Nat), .map (some mp), .slice ta n tc, .int .u16 (0 : Nat), .int .u16 (0 : Nat), .bool false] :: mapJ chV mp (.u16, []) :: Pw.sl 4 (0 + 1) (.slice ta n tc) n ((List.replicate n false).map Value.bool) :: famC [] :: L')) : Imp L (rgA r p at_ [] (List.replicate n false) 0 0 false :: L') := by
  refine Imp.shutA (mp, ta, tc) trivial ?_
  simp only [List.cons_append, List.nil_append, List.length_replicate]
  exact h
attribute [local irreducible] writeE turnE sizeE partN
theorem rnew_nil (n : Int) :
    Sat Try.prog 8 [.pointer none, .int .u32 0, .int .i64 n] [] (fun u L' => u = .tuple #[.pointer none, .int .i64 1] ∧ L' = []) := by
  all_goals
    refine Sat.enter Try.func8 rfl Try.ntmps8 rfl (fun c R => ?_)
    try simp only [List.cons_append, List.nil_append]
    repeat' (first
      | (exact Fini.of ⟨rfl, rfl⟩ (by repeat first | exact Imp.refl _ | (apply Imp.pull; focus ((repeat first | exact Del.head _ _ | apply Del.tail); done)) | apply Imp.drop))
      | refine And.intro (fun hc => ?_) (fun hc => ?_)
      | refine And.intro ?_ ?_
      | intro b
      | refine stp ?_
      | refine TQ.finC ?_
      | refine TQ.finC2 ?_
      | refine TQ.finC3 ?_
      | refine ⟨fun hc => ?_, fun hc => ?_⟩
      | refine Ei.f ?_
      | refine ⟨?_, ?_⟩
      | intro b
      | exact absurd rfl hc
      | exact absurd hc (by decide)
      | omega
      | (dsimp only; omega)
      | fail)
theorem add_nil  :
    Sat Try.prog 9 [.pointer none, .slice none 0 0] [] (fun u L' => u = .tuple #[.int .u16 0, .int .i64 1] ∧ L' = []) := by
  all_goals
    refine Sat.enter Try.func9 rfl Try.ntmps9 rfl (fun c R => ?_)
    try simp only [List.cons_append, List.nil_append]
    repeat' (first
      | (exact Fini.of ⟨rfl, rfl⟩ (by repeat first | exact Imp.refl _ | (apply Imp.pull; focus ((repeat first | exact Del.head _ _ | apply Del.tail); done)) | apply Imp.drop))
      | refine T.pl 15 [3, 4, 5, 7] (.p 2 (.p 0 (.b2 1 (.n 3 (.n 4 (.n 5 (.d 6 (.n 7 .fin))))) 3 (.b2 1 (.n 4 (.n 5 (.d 6 (.n 7 .fin)))) 4 (.d 1 (.n 5 (.d 6 (.n 7 .fin)))))))) ?_
      | refine T.pl 23 [6] (.p 0 (.p 1 (.p 4 (.d 2 (.d 3 (.d 5 (.n 6 .fin))))))) ?_
      | refine T.pl 24 [5, 21] (.p 0 (.p 1 (.p 4 (.p 7 (.p 8 (.p 12 (.p 13 (.p 20 (.p 2 (.p 9 (.p 14 (.b4 3 (.b3 5 (.p 6 (.d 10 (.p 11 (.d 15 (.p 16 (.p 17 (.p 18 (.p 19 (.n 21 .fin))))))))) 10 (.p 11 (.b2 5 (.p 6 (.d 15 (.p 16 (.p 17 (.p 18 (.p 19 (.n 21 .fin))))))) 15 (.p 16 (.p 17 (.p 18 (.n 5 (.p 6 (.p 19 (.n 21 .fin))))))))) 15 (.b2 5 (.p 6 (.d 10 (.p 11 (.p 16 (.p 17 (.p 18 (.p 19 (.n 21 .fin)))))))) 10 (.p 11 (.p 16 (.p 17 (.p 18 (.n 5 (.p 6 (.p 19 (.n 21 .fin)))))))))) 5 (.p 6 (.d 3 (.d 10 (.p 11 (.d 15 (.p 16 (.p 17 (.p 18 (.p 19 (.n 21 .fin)))))))))) 10 (.p 11 (.b3 3 (.b2 5 (.p 6 (.d 15 (.p 16 (.p 17 (.p 18 (.p 19 (.n 21 .fin))))))) 15 (.p 16 (.p 17 (.p 18 (.n 5 (.p 6 (.p 19 (.n 21 .fin)))))))) 5 (.p 6 (.d 3 (.d 15 (.p 16 (.p 17 (.p 18 (.p 19 (.n 21 .fin)))))))) 15 (.p 16 (.p 17 (.p 18 (.b2 3 (.n 5 (.p 6 (.p 19 (.n 21 .fin)))) 5 (.p 6 (.p 19 (.d 3 (.n 21 .fin)))))))))) 15 (.b3 3 (.b2 5 (.p 6 (.d 10 (.p 11 (.p 16 (.p 17 (.p 18 (.p 19 (.n 21 .fin)))))))) 10 (.p 11 (.p 16 (.p 17 (.p 18 (.n 5 (.p 6 (.p 19 (.n 21 .fin))))))))) 5 (.p 6 (.d 3 (.d 10 (.p 11 (.p 16 (.p 17 (.p 18 (.p 19 (.n 21 .fin))))))))) 10 (.p 11 (.p 16 (.p 17 (.p 18 (.b2 3 (.n 5 (.p 6 (.p 19 (.n 21 .fin)))) 5 (.p 6 (.p 19 (.d 3 (.n 21 .fin)))))))))))))))))))))) ?_
      | refine T.pl 26 [5, 11] (.p 0 (.p 1 (.p 4 (.p 7 (.p 8 (.p 2 (.p 9 (.b3 3 (.b2 5 (.p 6 (.d 10 (.n 11 .fin))) 10 (.n 5 (.p 6 (.n 11 .fin)))) 5 (.p 6 (.d 3 (.d 10 (.n 11 .fin)))) 10 (.b2 3 (.n 5 (.p 6 (.n 11 .fin))) 5 (.p 6 (.d 3 (.n 11 .fin)))))))))))) ?_
      | refine And.intro (fun hc => ?_) (fun hc => ?_)
      | refine And.intro ?_ ?_
      | intro b
      | refine stp ?_
      | refine TQ.finC ?_
      | refine TQ.finC2 ?_
      | refine TQ.finC3 ?_
      | refine ⟨fun hc => ?_, fun hc => ?_⟩
      | refine Ei.f ?_
      | refine ⟨?_, ?_⟩
      | intro b
      | exact absurd rfl hc
      | exact absurd hc (by decide)
      | omega
      | (dsimp only; omega)
      | fail)
theorem poll_nil  :
    Sat Try.prog 13 [.pointer none] [] (fun u L' => u = .tuple #[.agg #[.int .u16 0, .int .u32 0], .bool false, .int .i64 1] ∧ L' = []) := by
  all_goals
    refine Sat.enter Try.func13 rfl Try.ntmps13 rfl (fun c R => ?_)
    try simp only [List.cons_append, List.nil_append]
    repeat' (first
      | (exact Fini.of ⟨rfl, rfl⟩ (by repeat first | exact Imp.refl _ | (apply Imp.pull; focus ((repeat first | exact Del.head _ _ | apply Del.tail); done)) | apply Imp.drop))
      | refine T.pl 5 [5, 7] (.p 0 (.p 1 (.p 4 (.p 2 (.b2 3 (.n 5 (.p 6 (.n 7 (.p 8 (.p 9 (.p 10 (.p 11 (.p 12 .fin)))))))) 5 (.p 6 (.d 3 (.n 7 (.p 8 (.p 9 (.p 10 (.p 11 (.p 12 .fin))))))))))))) ?_
      | refine T.pl 11 [1] (.p 0 (.p 3 (.p 4 (.p 8 (.p 9 (.p 5 (.p 10 (.b3 1 (.p 2 (.d 6 (.p 7 (.d 11 (.p 12 (.p 13 (.p 14 (.p 15 (.p 16 .fin))))))))) 6 (.p 7 (.b2 1 (.p 2 (.d 11 (.p 12 (.p 13 (.p 14 (.p 15 (.p 16 .fin))))))) 11 (.p 12 (.p 13 (.p 14 (.n 1 (.p 2 (.p 15 (.p 16 .fin))))))))) 11 (.b2 1 (.p 2 (.d 6 (.p 7 (.p 12 (.p 13 (.p 14 (.p 15 (.p 16 .fin)))))))) 6 (.p 7 (.p 12 (.p 13 (.p 14 (.n 1 (.p 2 (.p 15 (.p 16 .fin))))))))))))))))) ?_
      | refine And.intro (fun hc => ?_) (fun hc => ?_)
      | refine And.intro ?_ ?_
      | intro b
      | refine stp ?_
      | refine TQ.finC ?_
      | refine TQ.finC2 ?_
      | refine TQ.finC3 ?_
      | refine ⟨fun hc => ?_, fun hc => ?_⟩
      | refine Ei.f ?_
      | refine ⟨?_, ?_⟩
      | intro b
      | exact absurd rfl hc
      | exact absurd hc (by decide)
      | omega
      | (dsimp only; omega)
      | fail)
theorem chain_nil (h : Nat) :
    Sat Try.prog 17 [.pointer none, .int .u16 h] [] (fun u L' => u = .tuple #[.slice none 0 0, .int .i64 1] ∧ L' = []) := by
  all_goals
    refine Sat.enter Try.func17 rfl Try.ntmps17 rfl (fun c R => ?_)
    try simp only [List.cons_append, List.nil_append]
    repeat' (first
      | (exact Fini.of ⟨rfl, rfl⟩ (by repeat first | exact Imp.refl _ | (apply Imp.pull; focus ((repeat first | exact Del.head _ _ | apply Del.tail); done)) | apply Imp.drop))
      | refine And.intro (fun hc => ?_) (fun hc => ?_)
      | refine And.intro ?_ ?_
      | intro b
      | refine stp ?_
      | refine TQ.finC ?_
      | refine TQ.finC2 ?_
      | refine TQ.finC3 ?_
      | refine ⟨fun hc => ?_, fun hc => ?_⟩
      | refine Ei.f ?_
      | refine ⟨?_, ?_⟩
      | intro b
      | exact absurd rfl hc
      | exact absurd hc (by decide)
      | omega
      | (dsimp only; omega)
      | fail)
theorem rnew_ok (p at_ n : Nat) (bs : List UInt8) (lt : List Bool) (h0 : 0 < sizeE n) (ha : at_ % 16 = 0) (ha2 : at_ ≤ 1048576) (hn : n ≤ 256) (hS2 : sizeE n ≤ 10000) (hp : partN n ≤ sizeE n) (hw : (writeE bs lt at_ (List.replicate (sizeE n) 0) false 11).1 = 0) (hl : (turnE lt (at_ + partN n) (sizeE n - partN n) true 11).1 = 0) :
    Sat Try.prog 8 [.pointer (some ⟨p, 0, none⟩), .int .u32 at_, .int .i64 n] [memA p bs lt] (fun u L' => ∃ r, u = .tuple #[.pointer (some ⟨r, 0, none⟩), .int .i64 0] ∧ L' = [rgA r p at_ [] (List.replicate n false) 0 0 false, memA p (writeE bs lt at_ (List.replicate (sizeE n) 0) false 11).2 (turnE lt (at_ + partN n) (sizeE n - partN n) true 11).2]) := by
  all_goals
    refine Sat.enter Try.func8 rfl Try.ntmps8 rfl (fun c R => ?_)
    try simp only [List.cons_append, List.nil_append]
    repeat' (first
      | (refine finAt ?_; exact absurd hw (by assumption))
      | (refine finAt ?_; exact absurd hl (by assumption))
      | (refine finAt ?_; rw [rep_bool]; exact Fini.of ⟨_, rfl, rfl⟩ (by apply Imp.shutR; repeat first | exact Imp.refl _ | (apply Imp.pull; focus ((repeat first | exact Del.head _ _ | apply Del.tail); done)) | (refine Imp.famN ?_) | apply Imp.drop))
      | (rw [List.length_replicate]; omega)
      | refine And.intro (fun hc => ?_) (fun hc => ?_)
      | refine And.intro ?_ ?_
      | intro b
      | refine stp ?_
      | refine TQ.finC ?_
      | refine TQ.finC2 ?_
      | refine TQ.finC3 ?_
      | refine ⟨fun hc => ?_, fun hc => ?_⟩
      | refine Ei.f ?_
      | refine ⟨?_, ?_⟩
      | intro b
      | exact absurd rfl hc
      | exact absurd hc (by decide)
      | omega
      | (dsimp only; omega)
      | fail)

end Go.Proofs.Ytcmafjngfcablaa


namespace Go.Proofs.Ytcmafjngfcablaa
open Go Pw
set_option maxRecDepth 20000
set_option maxHeartbeats 4000000
set_option synthInstance.maxHeartbeats 400000
set_option synthInstance.maxSize 4000
set_option maxHeartbeats 4000000

theorem flags_nil (n : Nat) : flags n [] = List.replicate n false := by
  refine (flags_ext (by simp) fun k hk => ?_).symm
  rw [List.getElem?_replicate, if_pos hk]
  simp [inS_nil]
theorem mnew_at (n : Nat) (h1 : 1 ≤ n) (h2 : n ≤ 1048576) : Sat Try.prog 7 [.int .i64 n] [] (fun v L' => ∃ p, v = .tuple #[.pointer (some ⟨p, 0, none⟩), .int .i64 0] ∧ L' = [memA p (List.replicate n 0) (List.replicate n false)]) := by
  refine (new_ok n h1 h2).post ?_
  rintro v L' ⟨p, b, rfl, rfl⟩
  refine ⟨_, Imp.shutA1 (b, .slice none 0 0, []) ⟨by rw [List.length_replicate]; exact h2, trivial, by rw [List.length_replicate, flags_nil]⟩ ?_, p, rfl, rfl⟩
  dsimp only
  have e : (List.replicate n (Value.int .u8 0)) = (List.replicate n (0 : UInt8)).map byteV := by simp [byteV]
  rw [List.length_replicate, e]
  exact Imp.pull (.head _ _) (Imp.pull (.head _ _) (Imp.slN (Imp.refl _)))
instance {L : List Assn} {x : Int} {n : Nat} [hx : Nn x n] : FnR Try.prog 7 [.int .i64 x] L (fun kk => Vc (1 ≤ n ∧ n ≤ 1048576) (∀ p, kk (.tuple #[.pointer (some ⟨p, 0, none⟩), .int .i64 0]) (memA p (List.replicate n 0) (List.replicate n false) :: L))) :=
  ⟨fun kk h => ⟨_, L, _, by rw [hx.h]; exact mnew_at n h.l.1 h.l.2, .nil _, fun v L' hv => by obtain ⟨p, f1, f2⟩ := hv; rw [f1, f2]; exact h.r p⟩⟩
instance {L R : List Assn} {p a n : Nat} {x y : Int} {bs : List UInt8} {lt : List Bool} [hm : MemAt L p bs lt R] [hx : Nn x a] [hy : Nn y n] : FnR Try.prog 8 [.pointer (some ⟨p, 0, none⟩), .int .u32 x, .int .i64 y] L (fun kk => Vc (0 < sizeE (n : Nat) ∧ a % 16 = 0 ∧ a ≤ 1048576 ∧ n ≤ 256 ∧ sizeE (n : Nat) ≤ 10000 ∧ partN n ≤ sizeE (n : Nat) ∧ (writeE bs lt a (List.replicate (sizeE (n : Nat)) 0) false 11).1 = 0 ∧ (turnE lt (a + partN n) (sizeE (n : Nat) - partN n) true 11).1 = 0) (∀ r, kk (.tuple #[.pointer (some ⟨r, 0, none⟩), .int .i64 0]) (rgA r p a [] (List.replicate n false) 0 0 false :: memA p (writeE bs lt a (List.replicate (sizeE (n : Nat)) 0) false 11).2 (turnE lt (a + partN n) (sizeE (n : Nat) - partN n) true 11).2 :: R))) :=
  ⟨fun kk h => by
    obtain ⟨⟨h0, h1, h2, h3, h4, h5, h6, h7⟩, h9⟩ := h
    exact ⟨_, R, _, by rw [hx.h, hy.h]; exact rnew_ok p a n bs lt h0 h1 h2 h3 h4 h5 h6 h7, .cons hm.h (.nil _), fun v L' hv => by obtain ⟨r, f1, f2⟩ := hv; rw [f1, f2]; exact h9 r⟩⟩
instance {L : List Assn} {x : Int} : FnR Try.prog 8 [.pointer none, .int .u32 0, .int .i64 x] L (fun kk => kk (.tuple #[.pointer none, .int .i64 1]) L) := ⟨fun kk h => ⟨[], L, _, rnew_nil x, .nil _, fun v L' hv => by rw [hv.1, hv.2]; exact h⟩⟩
instance {L : List Assn} {x : Int} {n : Nat} [hx : Nn x n] : FnR Try.prog 17 [.pointer none, .int .u16 x] L (fun kk => kk (.tuple #[.slice none 0 0, .int .i64 1]) L) := ⟨fun kk h => ⟨[], L, _, by rw [hx.h]; exact chain_nil n, .nil _, fun v L' hv => by rw [hv.1, hv.2]; exact h⟩⟩
instance {L : List Assn} : FnR Try.prog 9 [.pointer none, .slice none 0 0] L (fun kk => kk (.tuple #[.int .u16 0, .int .i64 1]) L) := ⟨fun kk h => ⟨[], L, _, add_nil, .nil _, fun v L' hv => by rw [hv.1, hv.2]; exact h⟩⟩
instance {L : List Assn} : FnR Try.prog 13 [.pointer none] L (fun kk => kk (.tuple #[.agg #[.int .u16 0, .int .u32 0], .bool false, .int .i64 1]) L) := ⟨fun kk h => ⟨[], L, _, poll_nil, .nil _, fun v L' hv => by rw [hv.1, hv.2]; exact h⟩⟩
instance {L : List Assn} : FnR Try.prog 11 [.pointer none] L (fun kk => kk (.int .u32 0) L) := ⟨fun kk h => ⟨[], L, _, used_nil, .nil _, fun v L' hv => by rw [hv.1, hv.2]; exact h⟩⟩
instance {L : List Assn} : FnR Try.prog 18 [.pointer none] L (fun kk => kk (.int .u32 0) L) := ⟨fun kk h => ⟨[], L, _, avail_nil, .nil _, fun v L' hv => by rw [hv.1, hv.2]; exact h⟩⟩
instance {L : List Assn} : FnR Try.prog 16 [.pointer none] L (fun kk => kk (.bool false) L) := ⟨fun kk h => ⟨[], L, _, broken_nil, .nil _, fun v L' hv => by rw [hv.1, hv.2]; exact h⟩⟩
instance {L : List Assn} : FnR Try.prog 14 [.pointer none] L (fun kk => kk (.int .i64 0) L) := ⟨fun kk h => ⟨[], L, _, waits_nil, .nil _, fun v L' hv => by rw [hv.1, hv.2]; exact h⟩⟩
instance {L : List Assn} : FnR Try.prog 15 [.pointer none] L (fun kk => kk (.int .i64 0) L) := ⟨fun kk h => ⟨[], L, _, left_nil, .nil _, fun v L' hv => by rw [hv.1, hv.2]; exact h⟩⟩

theorem eg44 : Try.prog.eqGuardType Try.prog.depth 44 = false := by kernel_rfl
theorem sih44 : Try.prog.stoodInHeld 44 = false := by kernel_rfl
theorem pl32 : plainT Try.prog 32 = true := by kernel_rfl
theorem sz32 : Try.prog.cellsOf 32 = 0 + 1 := by kernel_rfl
abbrev donV (a : Nat × Nat) : List Value := [.int .u16 a.1, .int .u32 a.2]
theorem eqDon (a b : Nat × Nat) (w : World) : (Op.equalIn (9998 + 1 + 1) 44 (.agg (donV a).toArray) (.agg (donV b).toArray)).run Try.prog w = .ok (decide (a = b)) w := by
  refine (eqSt (n := 9998 + 1) Try.underlying44 sih44 (.cons (by decide) rfl rfl pl32 sz32 (fun w => run_eqI _ _ _ Try.underlying32 w) (.cons (by decide) rfl rfl pl31 sz31 (fun w => run_eqI _ _ _ Try.underlying31 w) .nil)) w).trans ?_
  congr 1
  obtain ⟨a1, a2⟩ := a
  obtain ⟨b1, b2⟩ := b
  rw [Bool.eq_iff_iff]
  simp only [List.all_cons, List.all_nil, id, Bool.and_eq_true, decide_eq_true_eq, Prod.mk.injEq, and_true]
  omega
instance (priority := 1100) {x y x' y' : Int} {a b c d : Nat} [h1 : Nn x a] [h2 : Nn y b] [h3 : Nn x' c] [h4 : Nn y' d] : Pu Try.prog (.bin .eql 44 (.agg #[.int .u16 x, .int .u32 y]) (.agg #[.int .u16 x', .int .u32 y'])) (fun k => k (.bool (decide ((a, b) = (c, d))))) := ⟨fun E d_ op ty pos af g hr k hk => by
  rw [h1.h, h2.h, h3.h, h4.h] at hr
  cases hr with | bin e1 e2 => exact ⟨_, DP.eqOf e1 e2 eg44 (eqDon (a, b) (c, d)), hk⟩⟩
instance (priority := 1100) {x y x' y' : Int} {a b c d : Nat} [h1 : Nn x a] [h2 : Nn y b] [h3 : Nn x' c] [h4 : Nn y' d] : Pu Try.prog (.bin .neq 44 (.agg #[.int .u16 x, .int .u32 y]) (.agg #[.int .u16 x', .int .u32 y'])) (fun k => k (.bool (decide ((a, b) ≠ (c, d))))) := ⟨fun E d_ op ty pos af g hr k hk => by
  rw [h1.h, h2.h, h3.h, h4.h] at hr
  cases hr with | bin e1 e2 => exact ⟨_, DP.to (DP.neOf e1 e2 eg44 (eqDon (a, b) (c, d))) (by simp), hk⟩⟩
/-! Numbers in memory. -/
theorem putB_get {bs s : List UInt8} {a k : Nat} (h : a + s.length ≤ bs.length) : (putB bs a s)[k]? = if a ≤ k ∧ k < a + s.length then s[k - a]? else bs[k]? := by
  unfold putB
  by_cases h1 : k < a
  · rw [if_neg (by omega), List.getElem?_append_left (by simp; omega), List.getElem?_append_left (by simp; omega), List.getElem?_take, if_pos h1]
  · by_cases h2 : k < a + s.length
    · rw [if_pos (by omega), List.getElem?_append_left (by simp; omega), List.getElem?_append_right (by simp; omega)]
      congr 1
      simp; omega
    · rw [if_neg (by omega), List.getElem?_append_right (by simp; omega), List.getElem?_drop]
      congr 1
      simp; omega
theorem numE_eq {bs cs : List UInt8} {a b n : Nat} (h1 : a + n ≤ bs.length) (h2 : b + n ≤ cs.length) (h : ∀ i, i < n → bs[a + i]? = cs[b + i]?) : numE bs a n = numE cs b n := by
  unfold numE
  rw [if_pos h1, if_pos h2]
  congr 2
  apply List.ext_getElem?
  intro i
  rw [List.getElem?_take, List.getElem?_take]
  split
  · rw [List.getElem?_drop, List.getElem?_drop]; exact h i (by assumption)
  · rfl
theorem leN_leB' (x : Nat) : ∀ n, leN (leB x n) = x % 256 ^ n
  | 0 => by simp [leB, leN]; omega
  | n + 1 => by
    have h1 : leB x (n + 1) = leB x n ++ [UInt8.ofNat (x / 2 ^ (8 * n) % 256)] := by simp [leB, List.range_succ]
    rw [h1, leN_append, leN_leB' x n, leB_len, Nat.pow_succ]
    have h2 : leN [UInt8.ofNat (x / 2 ^ (8 * n) % 256)] = x / 256 ^ n % 256 := by
      have e : (256 : Nat) ^ n = 2 ^ (8 * n) := by rw [Nat.pow_mul]
      rw [e]
      simp [leN]
    rw [h2, Nat.mod_mul]
theorem leN_leB {x n : Nat} (h : x < 256 ^ n) : leN (leB x n) = x := by rw [leN_leB', Nat.mod_eq_of_lt h]
theorem numE_leB {x n : Nat} (h : x < 256 ^ n) : (numE (leB x n) 0 n).1 = x := by
  unfold numE
  rw [if_pos (by rw [leB_len]; omega), List.drop_zero, List.take_of_length_le (by rw [leB_len]; omega)]
  exact leN_leB h
theorem numE_keep {lt : List Bool} {bs bs' : List UInt8} {a n : Nat} (h : KeepP lt bs bs') (hl : ∀ i, i < n → lt[a + i]? = some true) : numE bs' a n = numE bs a n := by
  by_cases hn : a + n ≤ bs.length
  · exact numE_eq (by rw [h.len]; exact hn) hn fun i hi => h.keep _ (hl i hi)
  · unfold numE
    rw [if_neg (by rw [h.len]; exact hn), if_neg hn]
theorem writeE_ok {bs s : List UInt8} {lt : List Bool} {a e : Nat} {x : Bool} (h : a + s.length ≤ bs.length) (h2 : allB lt a s.length x = true) : writeE bs lt a s x e = (0, putB bs a s) := by
  unfold writeE; rw [if_pos h, if_pos h2]

/-- Buffers, as cells. -/
class BufL (xs : List Value) (l : outParam (List Bf)) : Prop where h : l.flatMap bufV = xs
instance (priority := 1100) {l : List Bf} : BufL (l.flatMap bufV) l := ⟨rfl⟩
instance : BufL [] [] := ⟨rfl⟩
instance {x y : Int} {a b : Nat} {z : Bool} {xs : List Value} {l : List Bf} [h1 : Nn x a] [h2 : Nn y b] [h : BufL xs l] : BufL (.int .u32 x :: .int .u32 y :: .bool z :: xs) (⟨a, b, z⟩ :: l) := ⟨by rw [← h.h, h1.h, h2.h]; rfl⟩
instance (priority := 900) {L R : List Assn} {r p at_ nx ls k m : Nat} {br : Bool} {a : Option Addr} {X : XC} {l : List Bf} {xs : List Value} {tk : List Bool} {bs : List UInt8} {lt : List Bool} {R1 R2 : List Assn} [h1 : RgAt L r p at_ X tk nx ls br R1] [h2 : MemAt R1 p bs lt R2] [h3 : SlAt R2 (.slice a m k) 37 (2 + 1) m xs R] [hl : BufL xs l] : FnR Try.prog 9 [.pointer (some ⟨r, 0, none⟩), .slice a m k] L (fun kk => Vc (m = l.length ∧ RgOk at_ bs.length X tk nx ls ∧ (∀ b ∈ l, b.ok) ∧ l.length < 9223372036854775808) (∀ hd e bs' lt' X' tk' nx', AddP at_ bs lt l X tk nx br hd e bs' lt' X' tk' nx' → kk (.tuple #[.int .u16 (hd : Nat), .int .i64 (e : Nat)]) (rgA r p at_ X' tk' nx' ls br :: memA p bs' lt' :: Pw.sl 37 (2 + 1) (.slice a m k) m (l.flatMap bufV) :: R))) :=
  ⟨fun kk h => by
    obtain ⟨⟨rfl, e1, e2, e3⟩, h9⟩ := h
    have h4 := h3.h
    rw [← hl.h] at h4
    exact ⟨_, R, _, add_at e1 e2 e3, .cons h1.h (.cons h2.h (.cons h4 (.nil _))), fun v L' hv => by obtain ⟨hd, e, bs', lt', X', tk', nx', f1, f2, f3⟩ := hv; rw [f2, f3]; exact h9 _ _ _ _ _ _ _ f1⟩⟩
theorem cntF_rep (n : Nat) : ∀ i, i ≤ n → cntF (List.replicate n false) i = i
  | 0, _ => by simp [cntF]
  | i + 1, hi => by
    rw [cntF_succ _ _ (by rw [List.length_replicate]; omega), cntF_rep n i (by omega)]
    have : gt (List.replicate n false) i = false := by unfold gt; simp [List.getD_eq_getElem?_getD, List.getElem?_replicate]; split <;> rfl
    rw [this]; rfl
theorem rg0 {at_ N n : Nat} (h1 : 1 ≤ n) (h2 : n ≤ 256) (h3 : at_ ≤ 1048576) (h4 : N ≤ 1048576) : RgOk at_ N [] (List.replicate n false) 0 0 :=
  ⟨by rw [List.length_replicate]; omega, by rw [List.length_replicate]; omega, h3, h4, by omega, by omega, (fun y h => absurd h List.not_mem_nil), (fun y h => absurd h List.not_mem_nil), List.nodup_nil, (fun m h => absurd h List.not_mem_nil), by rw [List.length_replicate, cntF_rep n n (Nat.le_refl _)]; rfl⟩

end Go.Proofs.Ytcmafjngfcablaa


namespace Go.Proofs.Ytcmafjngfcablaa
open Go Pw
set_option maxRecDepth 20000
set_option maxHeartbeats 4000000
set_option synthInstance.maxHeartbeats 400000
set_option synthInstance.maxSize 4000
set_option maxHeartbeats 8000000

abbrev lW : List Bf := [⟨100, 4, false⟩, ⟨200, 8, true⟩]
def BW : List UInt8 := (writeE (List.replicate 300 0) (List.replicate 300 false) 0 (List.replicate (sizeE ((2 : Nat) : Int)) 0) false 11).2
def LW : List Bool := (turnE (List.replicate 300 false) (0 + partN 2) (sizeE ((2 : Nat) : Int) - partN 2) true 11).2
def L1W : List Bool := ldE LW lW 2
theorem size2 : sizeE ((2 : Nat) : Int) = 66 := by decide +kernel
theorem part2 : partN 2 = 44 := by decide
theorem wNew : 0 < sizeE ((2 : Nat) : Int) ∧ 0 % 16 = 0 ∧ 0 ≤ 1048576 ∧ 2 ≤ 256 ∧ sizeE ((2 : Nat) : Int) ≤ 10000 ∧ partN 2 ≤ sizeE ((2 : Nat) : Int) ∧ (writeE (List.replicate 300 0) (List.replicate 300 false) 0 (List.replicate (sizeE ((2 : Nat) : Int)) 0) false 11).1 = 0 ∧ (turnE (List.replicate 300 false) (0 + partN 2) (sizeE ((2 : Nat) : Int) - partN 2) true 11).1 = 0 := by decide +kernel
theorem BW_len : BW.length = 300 := by rw [BW, writeE_len, List.length_replicate]
theorem lW_ok : ∀ b ∈ lW, b.ok := by
  intro b hb
  simp only [List.mem_cons, List.not_mem_nil, or_false] at hb
  rcases hb with rfl | rfl
  · exact ⟨by decide, by decide⟩
  · exact ⟨by decide, by decide⟩
theorem lW_lend : (turnE LW 200 8 true 11).1 = 0 := by decide +kernel
theorem L1W_d1 : allB L1W 48 8 true = true := by decide +kernel
theorem L1W_d2 : allB L1W 46 2 true = true := by decide +kernel
theorem L1W_at : L1W[46]? = some true ∧ L1W[47]? = some true := by decide +kernel
theorem BW_ix : (numE BW 46 2).1 = 0 := by decide +kernel
theorem may_none {l : List Bf} {N c e : Nat} (h : MayP l N c e) (h0 : 1 ≤ l.length) (h1 : l.length ≤ 8) (h2 : ∀ i, i < l.length → 0 < (gt l i).len ∧ (gt l i).at_ + (gt l i).len ≤ N) (h3 : l.length ≤ c) (h4 : ∀ i, i + 1 < l.length → (gt l i).inn = false) : e = 0 := by rw [h.all h0 h1 h2 h4, if_neg (by omega)]
theorem lend_w : ∀ i, i < lW.length → (gt lW i).inn = true → ¬ ((gt lW i).at_ < 0 + sizeE ((List.replicate 2 false).length : Nat) ∧ 0 < (gt lW i).at_ + (gt lW i).len) ∧ (turnE (ldE LW lW i) (gt lW i).at_ (gt lW i).len true 11).1 = 0 := by
  intro i hi hin
  match i, hi with
  | 0, _ => cases hin
  | 1, _ => exact ⟨fun h => by have h1 := h.1; rw [show sizeE ((List.replicate 2 false).length : Nat) = 66 from size2] at h1; exact absurd h1 (by decide), lW_lend⟩
theorem add_works {hd e nx' : Nat} {bs' : List UInt8} {lt' tk' : List Bool} {X' : XC} (h : AddP 0 BW LW lW [] (List.replicate 2 false) 0 false hd e bs' lt' X' tk' nx') : hd = 0 ∧ e = 0 ∧ KeepP L1W BW bs' ∧ lt' = L1W ∧ (∃ da dk ba bk, X' = [(0, (⟨[0, 1], lW, da, dk, ba, bk⟩ : Ch))]) ∧ tk' = [true, true] ∧ nx' = 1 := by
  cases h with
  | dead h => cases h
  | no e _ h1 h2 =>
    refine absurd (may_none h1 (by decide) (by decide) ?_ (by decide) ?_) h2
    · intro i hi
      rw [BW_len]
      match i, hi with
      | 0, _ => exact ⟨by decide, by decide⟩
      | 1, _ => exact ⟨by decide, by decide⟩
    · intro i hi
      match i, hi with
      | 0, _ => rfl
  | lent e _ _ _ h1 h2 => exact absurd (h1.ok lend_w).1 h2
  | done _ _ da dk ba bk _ h2 h3 h4 =>
    have := (h3.ok lend_w).2
    subst this
    exact ⟨by decide, rfl, h4, rfl, ⟨da, dk, ba, bk, rfl⟩, by decide, by decide⟩
theorem wOk0 : RgOk 0 BW.length [] (List.replicate 2 false) 0 0 := rg0 (by decide) (by decide) (by decide) (by rw [BW_len]; decide)
theorem ix1 {b1 : List UInt8} (h : KeepP L1W BW b1) : ixE b1 0 [true, true].length = 0 := by
  show (numE b1 46 2).1 = 0
  rw [numE_keep h (fun i hi => by
    match i, hi with
    | 0, _ => exact L1W_at.1
    | 1, _ => exact L1W_at.2)]
  exact BW_ix
theorem poll_w1 {b1 : List UInt8} {X X' : XC} {tk' lt' : List Bool} {hd sz e ls' : Nat} {is br' : Bool} (hk : KeepP L1W BW b1) (h : PollP b1 L1W 0 X [true, true] 0 false hd sz is e X' tk' ls' br' lt') : hd = 0 ∧ sz = 0 ∧ is = false ∧ e = 0 ∧ X' = X ∧ tk' = [true, true] ∧ ls' = 0 ∧ br' = false ∧ lt' = L1W := by
  have hi := ix1 hk
  cases h with
  | dead h => cases h
  | none => exact ⟨rfl, rfl, rfl, rfl, rfl, rfl, rfl, rfl, rfl⟩
  | breaks _ h => exact absurd hi h
  | done c _ h => exact absurd hi h
abbrev sD : List UInt8 := [0, 0, 0, 0, 5, 0, 0, 0]
theorem len1 {b1 : List UInt8} (h : KeepP L1W BW b1) : b1.length = 300 := h.len.trans BW_len
theorem len2 {b1 : List UInt8} (h : KeepP L1W BW b1) : (putB b1 48 sD).length = 300 := by rw [putB_len (by rw [len1 h]; decide), len1 h]
theorem len3 {b1 : List UInt8} (h : KeepP L1W BW b1) : (putB (putB b1 48 sD) 46 [1, 0]).length = 300 := by rw [putB_len (by rw [len2 h]; decide), len2 h]
theorem d1 {b1 : List UInt8} (h : KeepP L1W BW b1) : writeE b1 L1W (0 + partN [true, true].length + 4) sD true 12 = (0, putB b1 48 sD) := writeE_ok (by rw [len1 h]; decide) L1W_d1
theorem d1a {b1 : List UInt8} (h : KeepP L1W BW b1) : (writeE b1 L1W (0 + partN [true, true].length + 4) sD true 12).1 = 0 := by rw [d1 h]
theorem d1b {b1 : List UInt8} (h : KeepP L1W BW b1) : (writeE b1 L1W (0 + partN [true, true].length + 4) sD true 12).2 = putB b1 48 sD := by rw [d1 h]
theorem d2 {b1 : List UInt8} (h : KeepP L1W BW b1) : writeE (putB b1 48 sD) L1W (0 + partN [true, true].length + 2) [1, 0] true 12 = (0, putB (putB b1 48 sD) 46 [1, 0]) := writeE_ok (by rw [len2 h]; decide) L1W_d2
theorem d2a {b1 : List UInt8} (h : KeepP L1W BW b1) : (writeE (putB b1 48 sD) L1W (0 + partN [true, true].length + 2) [1, 0] true 12).1 = 0 := by rw [d2 h]
theorem d2b {b1 : List UInt8} (h : KeepP L1W BW b1) : (writeE (putB b1 48 sD) L1W (0 + partN [true, true].length + 2) [1, 0] true 12).2 = putB (putB b1 48 sD) 46 [1, 0] := by rw [d2 h]
theorem get3 {b1 : List UInt8} (h : KeepP L1W BW b1) {i : Nat} (hi : i < 10) : (putB (putB b1 48 sD) 46 [1, 0])[46 + i]? = ([1, 0, 0, 0, 0, 0, 5, 0, 0, 0] : List UInt8)[i]? := by
  rw [putB_get (by rw [len2 h]; decide), putB_get (by rw [len1 h]; decide)]
  match i, hi with
  | 0, _ => rfl
  | 1, _ => rfl
  | 2, _ => rfl
  | 3, _ => rfl
  | 4, _ => rfl
  | 5, _ => rfl
  | 6, _ => rfl
  | 7, _ => rfl
  | 8, _ => rfl
  | 9, _ => rfl
theorem num3 {b1 : List UInt8} (h : KeepP L1W BW b1) {a n : Nat} (hn : a + n ≤ 10) : numE (putB (putB b1 48 sD) 46 [1, 0]) (46 + a) n = numE ([1, 0, 0, 0, 0, 0, 5, 0, 0, 0] : List UInt8) a n :=
  numE_eq (by rw [len3 h]; omega) (by simpa using hn) fun i hi => by rw [Nat.add_assoc]; exact get3 h (by omega)
theorem poll_w2 {b1 : List UInt8} {X' : XC} {tk' lt' : List Bool} {hd sz e ls' : Nat} {is br' : Bool} {da ba : Option Addr} {dk bk : Nat} (hk : KeepP L1W BW b1) (h : PollP (putB (putB b1 48 sD) 46 [1, 0]) L1W 0 [(0, (⟨[0, 1], lW, da, dk, ba, bk⟩ : Ch))] [true, true] 0 false hd sz is e X' tk' ls' br' lt') : hd = 0 ∧ sz = 5 ∧ is = true ∧ e = 0 ∧ X' = [] ∧ tk' = [false, false] ∧ ls' = 1 ∧ br' = false := by
  have hi : ixE (putB (putB b1 48 sD) 46 [1, 0]) 0 [true, true].length = 1 := by
    show (numE _ (46 + 0) 2).1 = 1
    rw [num3 hk (by decide)]; rfl
  have hid : (numE (putB (putB b1 48 sD) 46 [1, 0]) (slotE 0 [true, true].length 0) 4).1 = 0 := by
    show (numE _ (46 + 2) 4).1 = 0
    rw [num3 hk (by decide)]; rfl
  have hsz : (numE (putB (putB b1 48 sD) 46 [1, 0]) (slotE 0 [true, true].length 0 + 4) 4).1 = 5 := by
    show (numE _ (46 + 6) 4).1 = 5
    rw [num3 hk (by decide)]; rfl
  generalize putB (putB b1 48 sD) 46 [1, 0] = b3 at *
  cases h with
  | dead h => cases h
  | none _ h => rw [hi] at h; cases h
  | breaks _ _ h =>
    rw [hi, hid, hsz] at h
    rcases h with h | h | h | ⟨c, h1, h2⟩
    · exact absurd h (show ¬ 1 < (1 + (65536 - 0)) % 65536 by decide)
    · cases h
    · exact absurd h (by decide)
    · have h1' : some (⟨[0, 1], lW, da, dk, ba, bk⟩ : Ch) = some c := h1
      cases h1'
      exact absurd h2 (show ¬ roomE lW 2 < 5 by decide)
  | done c _ _ _ h1 =>
    rw [hid] at h1 ⊢
    rw [hsz]
    have h1' : some (⟨[0, 1], lW, da, dk, ba, bk⟩ : Ch) = some c := h1
    cases h1'
    exact ⟨rfl, rfl, rfl, rfl, rfl, rfl, rfl, rfl⟩
theorem ok3 {b1 : List UInt8} {X : XC} {tk : List Bool} {nx ls : Nat} (h : KeepP L1W BW b1) (k : RgOk 0 b1.length X tk nx ls) : RgOk 0 (putB (putB b1 48 sD) 46 [1, 0]).length X tk nx ls := by rw [len3 h, ← len1 h]; exact k
theorem size2' : sizeE 2 = 66 := size2
theorem works_spec  :
    Sat Try.prog 6 [] [] (fun u L' => u = .bool true ∧ L' = []) := by
  have hg5 : True := trivial
  have hg8 : True := trivial
  have hg9 : True := trivial
  have hg10 : True := trivial
  have hg11 : True := trivial
  have hg12 : True := trivial
  all_goals
    refine Sat.enter Try.func6 rfl Try.ntmps6 rfl (fun c R => ?_)
    try simp only [List.cons_append, List.nil_append]
    repeat' (first
      | (refine Pw.Vc.mk wNew ?_)
      | (refine T.atR 5 ?_; clear hg5; rw [show (writeE (List.replicate 300 0) (List.replicate 300 false) 0 (List.replicate (sizeE ((2 : Nat) : Int)) 0) false 11).2 = BW from rfl, show (turnE (List.replicate 300 false) (0 + partN 2) (sizeE ((2 : Nat) : Int) - partN 2) true 11).2 = LW from rfl])
      | (refine T.atR 8 ?_; clear hg8; have hok1 := add_ok lW_ok b wOk0; obtain ⟨rfl, rfl, hkp, rfl, ⟨da, dk, ba, bk, rfl⟩, rfl, rfl⟩ := add_works b; clear b)
      | (refine T.atR 9 ?_; clear hg9; obtain ⟨rfl, rfl, rfl, rfl, rfl, rfl, rfl, rfl, rfl⟩ := poll_w1 hkp (by assumption); have hp2 : partN [true, true].length = 44 := (by decide); have hl2 : [true, true].length ≤ 256 := (by decide))
      | (refine T.atR 10 ?_; clear hg10; rw [d1a hkp, d1b hkp])
      | (refine T.atR 11 ?_; clear hg11; rw [d2a hkp, d2b hkp]; have hok3 := ok3 hkp hok1)
      | (refine T.atR 12 ?_; clear hg12; obtain ⟨rfl, rfl, rfl, rfl, rfl, rfl, rfl, rfl⟩ := poll_w2 hkp (by assumption); have hc2 : cntF [false, false] [false, false].length = 2 := (by decide); have hl0 : [false, false].length ≤ 256 := (by decide))
      | (refine finAt ?_; rw [decide_eq_true size2']; exact Fini.of ⟨rfl, rfl⟩ (by repeat first | exact Imp.refl _ | (apply Imp.pull; focus ((repeat first | exact Del.head _ _ | apply Del.tail); done)) | apply Imp.drop))
      | exact lW_ok
      | exact wOk0
      | exact hok1
      | exact hok3
      | exact ⟨hl2, by decide⟩
      | exact ⟨hl0, by decide⟩
      | exact hl0
      | exact ⟨rfl, wOk0, lW_ok, by decide⟩
      | refine And.intro (fun hc => ?_) (fun hc => ?_)
      | refine And.intro ?_ ?_
      | intro b
      | refine stp ?_
      | refine TQ.finC ?_
      | refine TQ.finC2 ?_
      | refine TQ.finC3 ?_
      | refine ⟨fun hc => ?_, fun hc => ?_⟩
      | refine Ei.f ?_
      | refine ⟨?_, ?_⟩
      | intro b
      | exact absurd rfl hc
      | exact absurd hc (by decide)
      | omega
      | (dsimp only; omega)
      | fail)

end Go.Proofs.Ytcmafjngfcablaa


namespace Go.Proofs.Ytcmafjngfcablaa
open Go Pw
set_option maxRecDepth 20000
set_option maxHeartbeats 4000000
set_option synthInstance.maxHeartbeats 400000
set_option synthInstance.maxSize 4000
set_option maxHeartbeats 8000000
instance {L : List Assn}  : FnR Try.prog 6 [] L (fun kk => kk (.bool true) L) := ⟨fun kk h => ⟨[], L, _, works_spec, .nil _, fun v L' hv => by rw [hv.1, hv.2]; exact h⟩⟩
theorem none_law (n : Int) :
    Sat Try.prog 4 [.int .i64 n] [] (fun u L' => u = .bool true ∧ L' = []) := by
  all_goals
    refine Sat.enter Try.func4 rfl Try.ntmps4 rfl (fun c R => ?_)
    try simp only [List.cons_append, List.nil_append]
    repeat' (first
      | (refine finAt ?_; exact Fini.of ⟨rfl, rfl⟩ (by repeat first | exact Imp.refl _ | (apply Imp.pull; focus ((repeat first | exact Del.head _ _ | apply Del.tail); done)) | apply Imp.drop))
      | refine And.intro (fun hc => ?_) (fun hc => ?_)
      | refine And.intro ?_ ?_
      | intro b
      | refine stp ?_
      | refine TQ.finC ?_
      | refine TQ.finC2 ?_
      | refine TQ.finC3 ?_
      | refine ⟨fun hc => ?_, fun hc => ?_⟩
      | refine Ei.f ?_
      | refine ⟨?_, ?_⟩
      | intro b
      | exact absurd rfl hc
      | exact absurd hc (by decide)
      | omega
      | (dsimp only; omega)
      | fail)

end Go.Proofs.Ytcmafjngfcablaa


namespace Go.Proofs.Ytcmafjngfcablaa
open Go Pw
set_option maxRecDepth 20000
set_option maxHeartbeats 4000000
set_option synthInstance.maxHeartbeats 400000
set_option synthInstance.maxSize 4000
set_option maxHeartbeats 4000000

theorem turn_fill {lt : List Bool} {a l e : Nat} {x : Bool} (he : e ≠ 0) (h : (turnE lt a l x e).1 = 0) : (turnE lt a l x e).2 = fillB lt a l x ∧ a + l ≤ lt.length := by
  unfold turnE at *
  split at h
  · rename_i h1
    rw [if_pos h1]
    split at h
    · rename_i h2
      rw [if_pos h2]
      exact ⟨rfl, h1.2⟩
    · exact absurd h he
  · cases h
/-- What is lent of N bytes once a ring of n stands at a place. -/
def LT (N at_ n : Nat) : List Bool := (turnE (List.replicate N false) (at_ + partN n) (sizeE (n : Nat) - partN n) true 11).2
structure NewOk (N at_ n : Nat) : Prop where
  new : 0 < sizeE (n : Nat) ∧ at_ % 16 = 0 ∧ at_ ≤ 1048576 ∧ n ≤ 256 ∧ sizeE (n : Nat) ≤ 10000 ∧ partN n ≤ sizeE (n : Nat) ∧ (writeE (List.replicate N 0) (List.replicate N false) at_ (List.replicate (sizeE (n : Nat)) 0) false 11).1 = 0 ∧ (turnE (List.replicate N false) (at_ + partN n) (sizeE (n : Nat) - partN n) true 11).1 = 0
  sz : sizeE (n : Nat) = partN n + 6 + 8 * n
  n1 : 1 ≤ n
theorem NewOk.len {N at_ n : Nat} (h : NewOk N at_ n) : at_ + partN n + 6 + 8 * n ≤ N := by
  have h1 := (turn_fill (by decide) h.new.2.2.2.2.2.2.2).2
  have := h.sz
  rw [List.length_replicate] at h1
  omega
theorem LT_len (N at_ n : Nat) : (LT N at_ n).length = N := by unfold LT; rw [turnE_len, List.length_replicate]
theorem LT_at {N at_ n : Nat} (h : NewOk N at_ n) {k : Nat} (h1 : at_ + partN n ≤ k) (h2 : k < at_ + partN n + 6 + 8 * n) : (LT N at_ n)[k]? = some true := by
  have hf := turn_fill (by decide) h.new.2.2.2.2.2.2.2
  have := h.sz
  have hl := h.len
  unfold LT
  rw [hf.1, fillB_get hf.2 k (by rw [List.length_replicate]; omega), if_pos (by omega)]
theorem LT_all {N at_ n : Nat} (h : NewOk N at_ n) {a l : Nat} (h1 : at_ + partN n ≤ a) (h2 : a + l ≤ at_ + partN n + 6 + 8 * n) : allB (LT N at_ n) a l true = true :=
  (allB_iff (by rw [LT_len]; have := h.len; omega)).2 fun k h3 h4 => LT_at h (by omega) (by omega)
theorem numE_in {bs s : List UInt8} {a b n : Nat} (h : a + s.length ≤ bs.length) (hb : a ≤ b) (hn : b + n ≤ a + s.length) : numE (putB bs a s) b n = numE s (b - a) n :=
  numE_eq (by rw [putB_len h]; omega) (by omega) fun i hi => by
    rw [putB_get h, if_pos (by omega)]
    congr 1; omega
theorem numE_out {bs s : List UInt8} {a b n : Nat} (h : a + s.length ≤ bs.length) (hb : b + n ≤ a ∨ a + s.length ≤ b) (hn : b + n ≤ bs.length) : numE (putB bs a s) b n = numE bs b n :=
  numE_eq (by rw [putB_len h]; exact hn) hn fun i hi => by rw [putB_get h, if_neg (by omega)]
theorem numE_l {s t : List UInt8} {n : Nat} (h : s.length = n) : numE (s ++ t) 0 n = numE s 0 n :=
  numE_eq (by rw [List.length_append]; omega) (by omega) fun i hi => by rw [List.getElem?_append_left (by omega)]
theorem numE_r {s t : List UInt8} {m n : Nat} (h : s.length = m) (h2 : t.length = n) : numE (s ++ t) m n = numE t 0 n :=
  numE_eq (by rw [List.length_append]; omega) (by omega) fun i hi => by
    rw [List.getElem?_append_right (by omega)]
    congr 1; omega
/-- The ring in RingRound: N bytes, n descriptors. -/
structure RI (N n : Nat) (X : XC) (tk : List Bool) (nx ls : Nat) (bs : List UInt8) : Prop where
  ok : RgOk 0 bs.length X tk nx ls
  bl : bs.length = N
  tl : tk.length = n
  one : ∀ y ∈ X, y.2.d.length = 1 ∧ ∀ b ∈ y.2.l, b.inn = false
theorem ds_one {X : XC} (h : ∀ y ∈ X, y.2.d.length = 1) : (dsX X).length = X.length := by
  induction X with
  | nil => rfl
  | cons y X ih =>
    rw [dsX_cons, List.length_append, List.length_cons, h y List.mem_cons_self, ih fun z hz => h z (List.mem_cons_of_mem _ hz)]
    omega
theorem RI.cnt {N n nx ls : Nat} {X : XC} {tk : List Bool} {bs : List UInt8} (I : RI N n X tk nx ls bs) : cntF tk tk.length + X.length = n := by
  have := I.ok.cnt
  rw [ds_one (fun y hy => (I.one y hy).1)] at this
  have := I.tl
  omega
theorem cnt_pos {n nx ls N : Nat} {X : XC} {tk : List Bool} {bs : List UInt8} (I : RI N n X tk nx ls bs) : X.length ≤ n := by have := I.cnt; omega
theorem round_add {N n A nx ls hd e nx' : Nat} {X X' : XC} {tk tk' lt lt' : List Bool} {bs bs' : List UInt8} (I : RI N n X tk nx ls bs) (hA : A + 4 ≤ N) (hA2 : A < 4294967296) (h : AddP 0 bs lt [⟨A, 4, false⟩] X tk nx false hd e bs' lt' X' tk' nx') :
    (e = 6 ∧ X.length = n ∧ bs' = bs ∧ lt' = lt ∧ X' = X ∧ tk' = tk ∧ nx' = nx) ∨ (e = 0 ∧ X.length < n ∧ lt' = lt ∧ RI N n X' tk' nx' ls bs' ∧ X'.map (·.1) = X.map (·.1) ++ [hd] ∧ hd < 65536) := by
  have hcn := I.cnt
  have hok : ∀ b ∈ ([⟨A, 4, false⟩] : List Bf), b.ok := fun b hb => by rw [List.mem_singleton] at hb; subst hb; exact ⟨hA2, show 4 < 4294967296 by decide⟩
  have hno : ∀ b ∈ ([⟨A, 4, false⟩] : List Bf), b.inn = false := fun b hb => by rw [List.mem_singleton] at hb; subst hb; rfl
  have hall : ∀ e, MayP [⟨A, 4, false⟩] bs.length (cntF tk tk.length) e → e = if cntF tk tk.length < 1 then 6 else 0 := fun e hm => hm.all (Nat.le_refl _) (show 1 ≤ 8 by decide) (fun i hi => by
    obtain rfl : i = 0 := by simpa using hi
    exact ⟨show 0 < 4 by decide, by show A + 4 ≤ _; rw [I.bl]; exact hA⟩) (fun i hi => by simp at hi)
  have hk := add_ok hok h I.ok
  have hlen := add_len h
  cases h with
  | dead h => cases h
  | no e _ h1 h2 =>
    have h3 := hall e h1
    split at h3
    · exact .inl ⟨h3, by omega, rfl, rfl, rfl, rfl, rfl⟩
    · exact absurd h3 h2
  | lent e lt' _ _ h1 h2 => exact absurd (h1.out hno).1 h2
  | done lt' bs' da dk ba bk _ h2 h3 h4 =>
    have h5 := hall 0 h2
    split at h5
    · cases h5
    · rename_i h6
      refine .inr ⟨rfl, by omega, (h3.out hno).2, ⟨hk, hlen.2.trans I.bl, hlen.1.trans I.tl, ?_⟩, by simp, ?_⟩
      · intro y hy
        rcases List.mem_append.1 hy with hy | hy
        · exact I.one y hy
        · rw [List.mem_singleton] at hy; subst hy
          exact ⟨(st_ok 1 (by omega)).dl, hno⟩
      · have hst := st_ok (tk := tk) 1 (by omega)
        have h7 := (hst.dd _ (gt_mem (show 0 < (stE tk 1).1.length by rw [hst.dl]; decide))).1
        have := hst.x1
        have := I.ok.n1
        show gt (stE tk 1).1 0 < 65536
        omega
def b1E (n ls h : Nat) (bs : List UInt8) : List UInt8 := putB bs (0 + partN n + 4 + 8 * (ls % n)) (leB h 4 ++ leB 0 4)
def b2E (n ls h : Nat) (bs : List UInt8) : List UInt8 := putB (b1E n ls h bs) (0 + partN n + 2) (leB ((ls + 1) % 65536) 2)
theorem ent_len (h : Nat) : (leB h 4 ++ leB 0 4).length = 8 := by rw [List.length_append, leB_len, leB_len]
section
variable {N n nx ls h : Nat} {X : XC} {tk : List Bool} {bs : List UInt8}
theorem slot_lt (hn : NewOk N 0 n) : 0 + partN n + 4 + 8 * (ls % n) + 8 ≤ 0 + partN n + 6 + 8 * n := by
  have := Nat.mod_lt ls (show 0 < n from hn.n1)
  omega
theorem b1_len (hn : NewOk N 0 n) (I : RI N n X tk nx ls bs) : (b1E n ls h bs).length = N := by
  unfold b1E
  rw [putB_len (by rw [ent_len, I.bl]; have := hn.len; have := slot_lt (ls := ls) hn; omega), I.bl]
theorem b2_len (hn : NewOk N 0 n) (I : RI N n X tk nx ls bs) : (b2E n ls h bs).length = N := by
  unfold b2E
  rw [putB_len (by rw [leB_len, b1_len hn I]; have := hn.len; omega), b1_len hn I]
theorem rd1 (hn : NewOk N 0 n) (I : RI N n X tk nx ls bs) : writeE bs (LT N 0 n) (0 + partN tk.length + 4 + 8 * (ls % n)) (leB h 4 ++ leB 0 4) true 12 = (0, b1E n ls h bs) := by
  rw [I.tl]
  exact writeE_ok (by rw [ent_len, I.bl]; have := hn.len; have := slot_lt (ls := ls) hn; omega) (LT_all hn (by omega) (by rw [ent_len]; exact slot_lt hn))
theorem rd2 (hn : NewOk N 0 n) (I : RI N n X tk nx ls bs) : writeE (b1E n ls h bs) (LT N 0 n) (0 + partN tk.length + 2) (leB ((ls + 1) % 65536) 2) true 12 = (0, b2E n ls h bs) := by
  rw [I.tl]
  exact writeE_ok (by rw [leB_len, b1_len hn I]; have := hn.len; omega) (LT_all hn (by omega) (by rw [leB_len]; omega))
theorem find_at {X : XC} {k : Nat} (hnd : (X.map (·.1)).Nodup) (hk : k < (X.map (·.1)).length) : ∃ c, atJ X (gt (X.map (·.1)) k) = some c ∧ Pw.delJ X (gt (X.map (·.1)) k) = X.eraseIdx k := by
  induction X generalizing k with
  | nil => simp at hk
  | cons y X ih =>
    rw [List.map_cons, List.nodup_cons] at hnd
    match k, hk with
    | 0, _ =>
      refine ⟨y.2, ?_, ?_⟩
      · show atJ (y :: X) y.1 = _
        simp [atJ]
      · show Pw.delJ (y :: X) y.1 = _
        simp [Pw.delJ, List.findIdx?_cons]
    | k + 1, hk =>
      have hk' : k < (X.map (·.1)).length := by simpa using hk
      obtain ⟨c, h1, h2⟩ := ih hnd.2 hk'
      have e : gt ((y :: X).map (·.1)) (k + 1) = gt (X.map (·.1)) k := by simp [gt]
      have hne : y.1 ≠ gt (X.map (·.1)) k := fun e => hnd.1 (e ▸ gt_mem hk')
      rw [e]
      refine ⟨c, ?_, ?_⟩
      · unfold atJ at h1 ⊢
        rw [List.find?_cons]
        simp only [hne, decide_false]
        exact h1
      · unfold Pw.delJ at h2 ⊢
        rw [List.findIdx?_cons]
        simp only [hne, decide_false]
        cases hf : X.findIdx? (fun q => decide (q.1 = gt (X.map (·.1)) k)) with
        | none => rw [hf] at h2; simp at h2 ⊢; exact h2
        | some i => rw [hf] at h2; simp at h2 ⊢; exact h2
theorem bk_out {lt : List Bool} {l : List Bf} (h : ∀ b ∈ l, b.inn = false) : bkE lt l l.length = lt := bkE_out lt l h _ (Nat.le_refl _)
theorem round_poll {k hd sz e ls' : Nat} {is br' : Bool} {X' : XC} {tk' lt' : List Bool} (hn : NewOk N 0 n) (I : RI N n X tk nx ls bs) (hk : k < X.length) (hh : h = gt (X.map (·.1)) k) (hp : PollP (b2E n ls h bs) (LT N 0 n) 0 X tk ls false hd sz is e X' tk' ls' br' lt') :
    hd = h ∧ sz = 0 ∧ is = true ∧ e = 0 ∧ X'.map (·.1) = (X.map (·.1)).eraseIdx k ∧ RI N n X' tk' nx ls' (b2E n ls h bs) ∧ ls' = (ls + 1) % 65536 ∧ br' = false ∧ lt' = LT N 0 n := by
  have hnl := hn.len
  have hsl := slot_lt (ls := ls) hn
  have hb1 := b1_len (h := h) hn I
  have hb2 := b2_len (h := h) hn I
  have htl := I.tl
  have hls := I.ok.ls
  have hkm : k < (X.map (·.1)).length := by simpa using hk
  have hh16 : h < 256 := by
    obtain ⟨y, hy, e1⟩ := List.mem_map.1 (gt_mem hkm)
    obtain ⟨h1, h2⟩ := I.ok.hd y hy
    have := (I.ok.ch y hy).d _ (gt_mem h1)
    have := I.ok.n1
    rw [hh, ← e1, ← h2]; omega
  have hok2 : RgOk 0 (b2E n ls h bs).length X tk nx ls := by rw [hb2, ← I.bl]; exact I.ok
  have hix : ixE (b2E n ls h bs) 0 tk.length = (ls + 1) % 65536 := by
    unfold ixE
    rw [htl]
    show (numE (putB (b1E n ls h bs) (0 + partN n + 2) (leB ((ls + 1) % 65536) 2)) (0 + partN n + 2) 2).1 = _
    rw [numE_in (by rw [leB_len, hb1]; omega) (Nat.le_refl _) (by rw [leB_len]; exact Nat.le_refl _), Nat.sub_self]
    exact numE_leB (Nat.mod_lt _ (by decide))
  have hid : (numE (b2E n ls h bs) (slotE 0 tk.length ls) 4).1 = h := by
    show (numE (putB (b1E n ls h bs) (0 + partN n + 2) (leB ((ls + 1) % 65536) 2)) (slotE 0 tk.length ls) 4).1 = _
    unfold slotE
    rw [htl]
    rw [numE_out (by rw [leB_len, hb1]; omega) (.inr (by rw [leB_len]; omega)) (by rw [hb1]; omega)]
    show (numE (putB bs (0 + partN n + 4 + 8 * (ls % n)) (leB h 4 ++ leB 0 4)) (0 + partN n + 4 + 8 * (ls % n)) 4).1 = _
    rw [numE_in (by rw [ent_len, I.bl]; omega) (Nat.le_refl _) (by rw [ent_len]; omega), Nat.sub_self, numE_l (leB_len _ _)]
    exact numE_leB (by omega)
  have hsz : (numE (b2E n ls h bs) (slotE 0 tk.length ls + 4) 4).1 = 0 := by
    show (numE (putB (b1E n ls h bs) (0 + partN n + 2) (leB ((ls + 1) % 65536) 2)) (slotE 0 tk.length ls + 4) 4).1 = _
    unfold slotE
    rw [htl]
    rw [numE_out (by rw [leB_len, hb1]; omega) (.inr (by rw [leB_len]; omega)) (by rw [hb1]; omega)]
    show (numE (putB bs (0 + partN n + 4 + 8 * (ls % n)) (leB h 4 ++ leB 0 4)) (0 + partN n + 4 + 8 * (ls % n) + 4) 4).1 = _
    rw [numE_in (by rw [ent_len, I.bl]; omega) (by omega) (by rw [ent_len]; omega), show 0 + partN n + 4 + 8 * (ls % n) + 4 - (0 + partN n + 4 + 8 * (ls % n)) = 4 by omega, numE_r (leB_len _ _) (leB_len _ _)]
    exact numE_leB (by decide)
  obtain ⟨c, hc1, hc2⟩ := find_at I.ok.keys hkm
  have hk2 := poll_ok hp hok2
  have hl2 := poll_len hp
  have hcm := atJ_mem hc1
  rw [← hh] at hc1 hc2
  cases hp with
  | dead h => cases h
  | none _ h1 =>
    rw [hix] at h1
    exfalso
    by_cases h5 : ls = 65535
    · subst h5; cases h1
    · rw [Nat.mod_eq_of_lt (by omega)] at h1; omega
  | breaks _ _ h1 =>
    rw [hix, hid, hsz, Nat.mod_eq_of_lt (show h < 65536 by omega)] at h1
    exfalso
    rcases h1 with h1 | h1 | h1 | ⟨c', h1, h2⟩
    · have : ((ls + 1) % 65536 + (65536 - ls)) % 65536 = 1 := by omega
      omega
    · rw [hc1] at h1; cases h1
    · omega
    · omega
  | done c' _ _ _ h1 =>
    rw [hid] at h1 hk2 ⊢
    rw [hc1] at h1
    cases h1
    rw [hsz]
    have hone := I.one _ hcm
    refine ⟨rfl, rfl, rfl, rfl, ?_, ⟨by rw [hb2] at hk2 ⊢; exact hk2, hb2, hl2.trans htl, ?_⟩, rfl, rfl, bk_out hone.2⟩
    · rw [hc2, Pw.eraseIdx_map']
    · intro y hy
      rw [hc2] at hy
      exact I.one y (List.mem_of_mem_eraseIdx hy)
end

end Go.Proofs.Ytcmafjngfcablaa

