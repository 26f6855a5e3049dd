/- Lemmas for the proofs of this seat: no statement of the seat is claimed here. -/
import Derived.Test.YtfgpnipnaaeafaaKo
import Derived.Test.YtfgpnipnaaeafaaKn
set_option linter.all false

namespace Go.Proofs.Ytfgpnipnaaeafaa
open Go Pw
set_option maxRecDepth 20000
set_option maxHeartbeats 4000000
set_option synthInstance.maxHeartbeats 400000
set_option synthInstance.maxSize 4000
set_option maxHeartbeats 8000000

theorem numE_lt (bs : List UInt8) (a n : Nat) : (numE bs a n).1 < 256 ^ n := by
  unfold numE; split
  · have := leN_lt ((bs.drop a).take n)
    refine Nat.lt_of_lt_of_le this (Nat.pow_le_pow_right (by omega) ?_)
    rw [List.length_take]; omega
  · exact Nat.pow_pos (by omega)
def ixE (bs : List UInt8) (at_ n : Nat) : Nat := (numE bs (at_ + partN n + 2) 2).1
def slotE (at_ n ls : Nat) : Nat := at_ + partN n + 4 + 8 * (ls % n)
def roomE (l : List Bf) : Nat → Nat
  | 0 => 0
  | i + 1 => roomE l i + (if (gt l i).inn then (gt l i).len else 0)
def clrE (tk : List Bool) (d : List Nat) : Nat → List Bool
  | 0 => tk
  | j + 1 => (clrE tk d j).set (gt d j) false
theorem clrE_len (tk : List Bool) (d : List Nat) : ∀ j, (clrE tk d j).length = tk.length
  | 0 => rfl
  | j + 1 => by show ((clrE tk d j).set (gt d j) false).length = _; rw [List.length_set, clrE_len tk d j]
theorem roomE_le {l : List Bf} (h : ∀ b ∈ l, b.ok) : ∀ i, i ≤ l.length → roomE l i ≤ i * 4294967296
  | 0, _ => Nat.zero_le _
  | i + 1, hi => by
    have := roomE_le h i (by omega)
    have h2 := (gt_all' h (show i < l.length by omega)).len
    rw [Nat.succ_mul]
    refine Nat.add_le_add this ?_
    split
    · exact Nat.le_of_lt h2
    · exact Nat.zero_le _
theorem room_y {l : List Bf} {i : Nat} (h : (gt l i).inn = true) : roomE l i + (gt l i).len = roomE l (i + 1) := by
  show _ = roomE l i + (if (gt l i).inn then (gt l i).len else 0); rw [if_pos h]
theorem room_n {l : List Bf} {i : Nat} (h : (gt l i).inn = false) : roomE l i = roomE l (i + 1) := by
  show _ = roomE l i + (if (gt l i).inn then (gt l i).len else 0); rw [if_neg (by rw [h]; exact Bool.false_ne_true), Nat.add_zero]
/-- What Poll answers, and leaves. -/
inductive PollP (bs : List UInt8) (lt : List Bool) (at_ : Nat) (X : XC) (tk : List Bool) (ls : Nat) (br : Bool) : Nat → Nat → Bool → Nat → XC → List Bool → Nat → Bool → List Bool → Prop
  | dead : br = true → PollP bs lt at_ X tk ls br 0 0 false 20 X tk ls true lt
  | none : br = false → ixE bs at_ tk.length = ls → PollP bs lt at_ X tk ls br 0 0 false 0 X tk ls false lt
  | breaks : br = false → ixE bs at_ tk.length ≠ ls → (X.length < (ixE bs at_ tk.length + (65536 - ls)) % 65536 ∨ atJ X ((numE bs (slotE at_ tk.length ls) 4).1 % 65536) = Option.none ∨ 65535 < (numE bs (slotE at_ tk.length ls) 4).1 ∨ ∃ c, atJ X ((numE bs (slotE at_ tk.length ls) 4).1 % 65536) = some c ∧ roomE c.l c.l.length < (numE bs (slotE at_ tk.length ls + 4) 4).1) → PollP bs lt at_ X tk ls br 0 0 false 20 X tk ls true lt
  | done (c : Ch) : br = false → ixE bs at_ tk.length ≠ ls → (numE bs (slotE at_ tk.length ls) 4).1 < 65536 → atJ X (numE bs (slotE at_ tk.length ls) 4).1 = some c → (numE bs (slotE at_ tk.length ls + 4) 4).1 ≤ roomE c.l c.l.length → PollP bs lt at_ X tk ls br (numE bs (slotE at_ tk.length ls) 4).1 (numE bs (slotE at_ tk.length ls + 4) 4).1 true 0 (Pw.delJ X (numE bs (slotE at_ tk.length ls) 4).1) (clrE tk c.d c.d.length) ((ls + 1) % 65536) false (bkE lt c.l c.l.length)
structure ChOk (N : Nat) (c : Ch) : Prop where
  d : ∀ x ∈ c.d, x < N
  l : ∀ b ∈ c.l, b.ok
  dl : c.d.length ≤ 8
  ll : c.l.length ≤ 8
theorem atJ_mem {X : XC} {n : Nat} {c : Ch} (h : atJ X n = some c) : (n, c) ∈ X := by
  obtain ⟨A, B, e1, _, _⟩ := atJ_split h
  rw [e1]; simp
instance {L R : List Assn} {r at_ n nx ls : Nat} {vm vp vt : Value} {br : Bool} [h1 : RowDel L r 84 [vm, .int .u32 (at_ : Nat), .int .i64 (n : Nat), vp, vt, .int .u16 (nx : Nat), .int .u16 (ls : Nat), .bool br] R] : FnR Try.prog 77 [.pointer (some ⟨r, 0, none⟩)] L (fun kk => kk (.tuple #[.agg #[.int .u16 0, .int .u32 0], .bool false, .int .i64 20]) (row 84 r [vm, .int .u32 (at_ : Nat), .int .i64 (n : Nat), vp, vt, .int .u16 (nx : Nat), .int .u16 (ls : Nat), .bool true] :: R)) :=
  ⟨fun kk h => ⟨_, R, _, breaks_spec r at_ n nx ls vm vp vt br, .cons h1.h (.nil _), fun v L' hv => by rw [hv.1, hv.2]; exact h⟩⟩
theorem imp_clr {tk : List Bool} {ta : Option Addr} {tc : Nat} (d : List Nat) {L R : List Assn} (h : Del (Pw.sl 4 (0 + 1) (.slice ta tk.length tc) tk.length (tk.map Value.bool)) L R) : Imp L (Pw.sl 4 (0 + 1) (.slice ta tk.length tc) tk.length ((clrE tk d 0).map Value.bool) :: R) := Imp.pull h (Imp.refl R)
theorem vU6 {x y : Nat} (e : x = y) : Value.int .u64 (x : Int) = Value.int .u64 (y : Int) := by rw [e]
attribute [local irreducible] numE bkE partN
theorem poll_spec (r p at_ nx ls mp tc : Nat) (br : Bool) (ta : Option Addr) (X : XC) (tk : List Bool) (bs : List UInt8) (lt : List Bool) (hX : ∀ y ∈ X, ChOk tk.length y.2) (ht : 0 < tk.length) (ht2 : tk.length ≤ 256) (ha : at_ ≤ 1048576) (hls : ls < 65536) (hXl : X.length ≤ 256) :
    Sat Try.prog 59 [.pointer (some ⟨r, 0, none⟩)] [row 84 r [.pointer (some ⟨p, 0, none⟩), .int .u32 at_, .int .i64 (tk.length : Nat), .map (some mp), .slice ta tk.length tc, .int .u16 nx, .int .u16 ls, .bool br], memA p bs lt, mapJ chV mp (.u16, X), Pw.sl 4 (0 + 1) (.slice ta tk.length tc) tk.length ((tk).map Value.bool), famC X] (fun u L' => ∃ hd sz is e X' tk' ls' br' lt', PollP bs lt at_ X tk ls br hd sz is e X' tk' ls' br' lt' ∧ u = .tuple #[.agg #[.int .u16 (hd : Nat), .int .u32 (sz : Nat)], .bool is, .int .i64 (e : Nat)] ∧ L' = [row 84 r [.pointer (some ⟨p, 0, none⟩), .int .u32 at_, .int .i64 (tk.length : Nat), .map (some mp), .slice ta tk.length tc, .int .u16 nx, .int .u16 (ls' : Nat), .bool br'], memA p bs lt', mapJ chV mp (.u16, X'), Pw.sl 4 (0 + 1) (.slice ta tk.length tc) tk.length ((tk').map Value.bool), famC X']) := by
  have hi1 : ixE bs at_ tk.length < 65536 := numE_lt bs (at_ + partN tk.length + 2) 2
  have hi2 : (numE bs (slotE at_ tk.length ls) 4).1 < 4294967296 := numE_lt bs (slotE at_ tk.length ls) 4
  have hi3 : (numE bs (slotE at_ tk.length ls + 4) 4).1 < 4294967296 := numE_lt bs (slotE at_ tk.length ls + 4) 4
  have hpl := partN_le ht2
  have hmd := Nat.mod_lt ls ht
  have hsl : slotE at_ tk.length ls < 2000000 := by unfold slotE; omega
  have hgo : True := trivial
  have hg14 : True := trivial
  all_goals
    refine Sat.enter Try.func59 rfl Try.ntmps59 rfl (fun c R => ?_)
    try simp only [List.cons_append, List.nil_append]
    repeat' (first
      | (refine T.atSR 5 ?_; have hbr := ‹br = false›; subst hbr; obtain ⟨b2, hb2⟩ : ∃ x, x = b := ⟨_, rfl⟩; subst hb2; refine T.cutR 5 (fun _ : Unit => [(0, .pointer (some ⟨r, 0, none⟩)), (2, .pointer (some ⟨b2, 0, none⟩)), (5, .int .u16 (ixE bs at_ tk.length : Nat))]) (fun _ => row 132 b2 [.int .u16 0, .int .u32 0] :: row 84 r [.pointer (some ⟨p, 0, none⟩), .int .u32 at_, .int .i64 (tk.length : Nat), .map (some mp), .slice ta tk.length tc, .int .u16 nx, .int .u16 ls, .bool false] :: memA p bs lt :: mapJ chV mp (.u16, X) :: Pw.sl 4 (0 + 1) (.slice ta tk.length tc) tk.length ((tk).map Value.bool) :: famC X :: R) (fun _ => True) ?_ (fun _ g _ => ?_))
      | (refine T.atSR 11 ?_; refine T.cutR 11 (fun _ : Unit => [(0, .pointer (some ⟨r, 0, none⟩)), (2, .pointer (some ⟨b2, 0, none⟩)), (8, .int .u32 (slotE at_ tk.length ls : Nat))]) (fun _ => row 132 b2 [.int .u16 0, .int .u32 0] :: row 84 r [.pointer (some ⟨p, 0, none⟩), .int .u32 at_, .int .i64 (tk.length : Nat), .map (some mp), .slice ta tk.length tc, .int .u16 nx, .int .u16 ls, .bool false] :: memA p bs lt :: mapJ chV mp (.u16, X) :: Pw.sl 4 (0 + 1) (.slice ta tk.length tc) tk.length ((tk).map Value.bool) :: famC X :: R) (fun _ => True) ?_ (fun _ g _ => ?_))
      | (refine TQ.atC ?_; refine TQ.cn (() : Unit) rfl ⟨rfl, rfl, rfl, trivial⟩ trivial (Ent.imp (by repeat first | exact Imp.refl _ | (apply Imp.pull; focus ((repeat first | exact Del.head _ _ | apply Del.tail); done)) | apply Imp.drop)))
      | (refine T.atR 14 ?_; clear hg14; rcases hat : atJ X ((numE bs (slotE at_ tk.length ls) 4).1 % 65536) with _ | c)
      | refine Opt.n hat ?_
      | refine Opt.s hat ?_
      | (refine T.atR 18 ?_; clear hgo; have hid : (numE bs (slotE at_ tk.length ls) 4).1 < 65536 := (by omega); rw [Nat.mod_eq_of_lt hid] at hat; have hcm : ChOk tk.length c := hX _ (atJ_mem hat); have hcd := hcm.d; have hcl := hcm.l; have hc8 := hcm.dl; have hl8 := hcm.ll; refine T.ent (Ent.imp (famC_at (by repeat first | exact Del.head _ _ | apply Del.tail) hat)) ?_)
      | (refine T.atB 1 ?_; refine T.lpa 1 [(0, _), (2, _), (9, _), (11, _), (13, _), (124, _), (125, _)] (0 : Nat) (fun i => [(15, .int .u64 (roomE c.l i : Nat)), (126, .int .i64 (i : Nat))]) (fun _ => []) (fun i => i ≤ c.l.length) (fun i => c.l.length - i) (Nat.zero_le _) ?_; rintro i g hi; have hb2 := fun h : i < c.l.length => (gt_all' hcl h).len; have hrm := roomE_le hcl i hi; simp only [List.cons_append, List.nil_append, appR])
      | (refine TQ.atL ?_; have h9 := ‹(gt c.l i).inn = true›; refine TQ.rd (i + 1 : Nat) rfl ⟨vU6 (room_y h9), rfl, rfl, rfl, rfl, rfl, rfl, rfl, rfl, trivial⟩ (by omega) (by omega) (Ent.imp (by repeat first | exact Imp.refl _ | (apply Imp.pull; focus ((repeat first | exact Del.head _ _ | apply Del.tail); done)) | apply Imp.drop)))
      | (refine TQ.atL ?_; have h9 := ‹(gt c.l i).inn = false›; refine TQ.rd (i + 1 : Nat) rfl ⟨vU6 (room_n h9), rfl, rfl, rfl, rfl, rfl, rfl, rfl, rfl, trivial⟩ (by omega) (by omega) (Ent.imp (by repeat first | exact Imp.refl _ | (apply Imp.pull; focus ((repeat first | exact Del.head _ _ | apply Del.tail); done)) | apply Imp.drop)))
      | (refine T.atR 24 ?_; obtain rfl : i = c.l.length := (by omega); have hg24 := hi)
      | (refine T.atB 3 ?_; refine T.ent (Ent.imp (imp_clr c.d (by repeat first | exact Del.head _ _ | apply Del.tail))) ?_; refine T.lpa 3 [(0, _), (2, _), (9, _), (11, _), (152, _), (153, _)] (0 : Nat) (fun j => [(154, .int .i64 (j : Nat))]) (fun j => [Pw.sl 4 (0 + 1) (.slice ta tk.length tc) tk.length ((clrE tk c.d j).map Value.bool)]) (fun j => j ≤ c.d.length) (fun j => c.d.length - j) (Nat.zero_le _) ?_; rintro j g hj; have hdj := fun h : j < c.d.length => gt_all' hcd h; have hcj := clrE_len tk c.d j; simp only [List.cons_append, List.nil_append, appR])
      | (refine TQ.atL ?_; refine TQ.rd (j + 1 : Nat) rfl ⟨rfl, rfl, rfl, rfl, rfl, rfl, rfl, trivial⟩ (by omega) (by omega) (Ent.imp (by repeat first | exact Imp.refl _ | (apply Imp.pull; focus ((repeat first | exact Del.head _ _ | apply Del.tail); done)) | apply Imp.drop)))
      | (refine finAt ?_; have hbr := ‹br = true›; exact Fini.of ⟨_, _, _, _, _, _, _, _, _, .dead hbr, rfl, rfl⟩ (by repeat first | exact Imp.refl _ | (apply Imp.pull; focus ((repeat first | exact Del.head _ _ | apply Del.tail); done)) | apply Imp.drop))
      | (refine finAt ?_; exact Fini.of ⟨_, _, _, _, _, _, _, _, _, .none rfl (by omega), rfl, rfl⟩ (by repeat first | exact Imp.refl _ | (apply Imp.pull; focus ((repeat first | exact Del.head _ _ | apply Del.tail); done)) | apply Imp.drop))
      | (refine finAt ?_; exact Fini.of ⟨_, _, _, _, _, _, _, _, _, .breaks rfl (by omega) (by first | exact .inl (by assumption) | exact .inr (.inl hat) | exact .inr (.inr (.inl (by omega))) | exact .inr (.inr (.inr ⟨c, (by rw [Nat.mod_eq_of_lt hid]; exact hat), by omega⟩))), rfl, rfl⟩ (by repeat first | exact Imp.refl _ | (apply Imp.pull; focus ((repeat first | exact Del.head _ _ | apply Del.tail); done)) | (refine Imp.pullC (by repeat first | exact Del.head _ _ | apply Del.tail) (by repeat first | exact Del.head _ _ | apply Del.tail) (by repeat first | exact Del.head _ _ | apply Del.tail) hat ?_) | apply Imp.drop))
      | (refine finAt ?_; obtain rfl : j = c.d.length := (by omega); exact Fini.of ⟨_, _, _, _, _, _, _, _, _, .done c rfl (by omega) hid hat (by omega), rfl, rfl⟩ (by repeat first | exact Imp.refl _ | (apply Imp.pull; focus ((repeat first | exact Del.head _ _ | apply Del.tail); done)) | apply Imp.drop))
      | exact ⟨rfl, hcl, by omega⟩
      | refine T.pl 5 [5, 7] (.p 0 (.p 1 (.p 4 (.p 2 (.b2 3 (.n 5 (.p 6 (.n 7 (.p 8 (.p 9 (.p 10 (.p 11 (.p 12 .fin)))))))) 5 (.p 6 (.d 3 (.n 7 (.p 8 (.p 9 (.p 10 (.p 11 (.p 12 .fin))))))))))))) ?_
      | refine T.pl 11 [1] (.p 0 (.p 3 (.p 4 (.p 8 (.p 9 (.p 5 (.p 10 (.b3 1 (.p 2 (.d 6 (.p 7 (.d 11 (.p 12 (.p 13 (.p 14 (.p 15 (.p 16 .fin))))))))) 6 (.p 7 (.b2 1 (.p 2 (.d 11 (.p 12 (.p 13 (.p 14 (.p 15 (.p 16 .fin))))))) 11 (.p 12 (.p 13 (.p 14 (.n 1 (.p 2 (.p 15 (.p 16 .fin))))))))) 11 (.b2 1 (.p 2 (.d 6 (.p 7 (.p 12 (.p 13 (.p 14 (.p 15 (.p 16 .fin)))))))) 6 (.p 7 (.p 12 (.p 13 (.p 14 (.n 1 (.p 2 (.p 15 (.p 16 .fin))))))))))))))))) ?_
      | refine And.intro (fun hc => ?_) (fun hc => ?_)
      | refine And.intro ?_ ?_
      | intro b
      | refine stp ?_
      | refine TQ.finC ?_
      | refine TQ.finC2 ?_
      | refine TQ.finC3 ?_
      | refine ⟨fun hc => ?_, fun hc => ?_⟩
      | refine Ei.f ?_
      | refine ⟨?_, ?_⟩
      | intro b
      | exact absurd rfl hc
      | exact absurd hc (by decide)
      | omega
      | (dsimp only; omega)
      | fail)

end Go.Proofs.Ytfgpnipnaaeafaa

