/- Lemmas for the proofs of this seat: no statement of the seat is claimed here. -/
import Derived.Test.YtfgpnipnaaeafaaKl
set_option linter.all false

namespace Go.Proofs.Ytfgpnipnaaeafaa
open Go Pw
set_option maxRecDepth 20000
set_option maxHeartbeats 4000000
set_option synthInstance.maxHeartbeats 400000
set_option synthInstance.maxSize 4000
set_option maxHeartbeats 8000000

def ldS (lt : List Bool) (b : Bf) : List Bool := if b.inn then (turnE lt b.at_ b.len true 11).2 else lt
/-- What is lent, once buffers were lent. -/
def ldE (lt : List Bool) (l : List Bf) : Nat → List Bool
  | 0 => lt
  | i + 1 => ldS (ldE lt l i) (gt l i)
theorem ld_yes {lt : List Bool} {l : List Bf} {i : Nat} (h : (!(gt l i).inn) = false) : (turnE (ldE lt l i) (gt l i).at_ (gt l i).len true 11).2 = ldE lt l (i + 1) := by
  show _ = ldS (ldE lt l i) (gt l i); unfold ldS; rw [if_pos (by simpa using h)]
theorem ld_no {lt : List Bool} {l : List Bf} {i : Nat} (h : (!(gt l i).inn) = true) : ldE lt l i = ldE lt l (i + 1) := by
  show _ = ldS (ldE lt l i) (gt l i); unfold ldS; rw [if_neg (by simpa using h)]
theorem ldE_len (lt : List Bool) (l : List Bf) : ∀ i, (ldE lt l i).length = lt.length
  | 0 => rfl
  | i + 1 => by
    show (ldS (ldE lt l i) (gt l i)).length = _
    unfold ldS; split
    · rw [turnE_len, ldE_len lt l i]
    · exact ldE_len lt l i
theorem ldE_out (lt : List Bool) (l : List Bf) (h : ∀ b ∈ l, b.inn = false) : ∀ i, i ≤ l.length → ldE lt l i = lt
  | 0, _ => rfl
  | i + 1, hi => by
    rw [← ld_no (by rw [gt_all' (q := fun b : Bf => b.inn = false) h (j := i) (by omega)]; rfl), ldE_out lt l h i (by omega)]
/-- What lend leaves (at_, S: the ring's own part). -/
structure LendP (at_ S : Nat) (lt : List Bool) (l : List Bf) (e : Nat) (lt' : List Bool) : Prop where
  len : lt'.length = lt.length
  le : e ≤ 20
  ok : (∀ i, i < l.length → (gt l i).inn = true → ¬ ((gt l i).at_ < at_ + S ∧ at_ < (gt l i).at_ + (gt l i).len) ∧ (turnE (ldE lt l i) (gt l i).at_ (gt l i).len true 11).1 = 0) → e = 0 ∧ lt' = ldE lt l l.length
theorem LendP.out {at_ S e : Nat} {lt lt' : List Bool} {l : List Bf} (h : LendP at_ S lt l e lt') (hb : ∀ b ∈ l, b.inn = false) : e = 0 ∧ lt' = lt := by
  have := h.ok (fun i hi hin => by rw [gt_all' (q := fun b : Bf => b.inn = false) hb hi] at hin; cases hin)
  rw [ldE_out lt l hb _ (Nat.le_refl _)] at this
  exact this
theorem imp_ld {p : Nat} {bs : List UInt8} {lt : List Bool} (l : List Bf) {L R : List Assn} (h : Del (memA p bs lt) L R) : Imp L (memA p bs (ldE lt l 0) :: R) := Imp.pull h (Imp.refl R)
theorem inn_of {b : Bool} (h : (!b) = false) : b = true := by cases b <;> simp_all
theorem ok_take {l : List Bf} {i : Nat} (h : ∀ b ∈ l, b.ok) : ∀ b ∈ l.take i, b.ok := fun b hb => h b (List.mem_of_mem_take hb)
theorem vE {x y : Nat} (e : x = y) : Value.int .i64 (x : Int) = Value.int .i64 (y : Int) := by rw [e]
attribute [local irreducible] bkE ldE turnE sizeE
theorem lend_spec (r p at_ n nx ls k : Nat) (vp vt : Value) (br : Bool) (a : Option Addr) (l : List Bf) (bs : List UInt8) (lt : List Bool) (hok : ∀ b ∈ l, b.ok) (hn : l.length ≤ 8) (hin : ∀ b ∈ l, b.at_ + b.len ≤ bs.length) (hbs : bs.length ≤ 1048576) (ha : at_ ≤ 1048576) (hz : sizeE n ≤ 10000) :
    Sat Try.prog 49 [.pointer (some ⟨r, 0, none⟩), .slice a l.length k] [row 84 r [.pointer (some ⟨p, 0, none⟩), .int .u32 at_, .int .i64 n, vp, vt, .int .u16 nx, .int .u16 ls, .bool br], memA p bs lt, Pw.sl 90 (2 + 1) (.slice a l.length k) l.length (l.flatMap bufV)] (fun u L' => ∃ e lt', LendP at_ (sizeE n) lt l e lt' ∧ u = .int .i64 (e : Nat) ∧ L' = [row 84 r [.pointer (some ⟨p, 0, none⟩), .int .u32 at_, .int .i64 n, vp, vt, .int .u16 nx, .int .u16 ls, .bool br], memA p bs lt', Pw.sl 90 (2 + 1) (.slice a l.length k) l.length (l.flatMap bufV)]) := by
  all_goals
    refine Sat.enter Try.func49 rfl Try.ntmps49 rfl (fun c R => ?_)
    try simp only [List.cons_append, List.nil_append]
    repeat' (first
      | (refine T.atB 0 ?_; refine T.ent (Ent.imp (imp_ld l (by repeat first | exact Del.head _ _ | apply Del.tail))) ?_; refine T.lpa 0 [(0, _), (1, _), (8, _), (9, _)] (0 : Nat) (fun i => [(10, .int .i64 (i : Nat))]) (fun i => [memA p bs (ldE lt l i)]) (fun i => i ≤ l.length) (fun i => l.length - i) (Nat.zero_le _) ?_; rintro i g hi; have hb1 := fun h : i < l.length => (gt_all' hok h).at_; have hb2 := fun h : i < l.length => (gt_all' hok h).len; have hb3 := fun h : i < l.length => gt_all' (q := fun b : Bf => b.at_ + b.len ≤ bs.length) hin h; simp only [List.cons_append, List.nil_append, appR])
      | (refine TQ.atL ?_; have h9 := ‹(!(gt l i).inn) = false›; rw [ld_yes h9]; refine TQ.rd (i + 1 : Nat) rfl ⟨rfl, rfl, rfl, rfl, rfl, trivial⟩ (by first | omega | fail) (by omega) (Ent.imp (by repeat first | exact Imp.refl _ | (apply Imp.pull; focus ((repeat first | exact Del.head _ _ | apply Del.tail); done)) | apply Imp.drop)))
      | (refine TQ.atL ?_; have h9 := ‹(!(gt l i).inn) = true›; rw [ld_no h9]; refine TQ.rd (i + 1 : Nat) rfl ⟨rfl, rfl, rfl, rfl, rfl, trivial⟩ (by first | omega | fail) (by omega) (Ent.imp (by repeat first | exact Imp.refl _ | (apply Imp.pull; focus ((repeat first | exact Del.head _ _ | apply Del.tail); done)) | apply Imp.drop)))
      | (refine finAt ?_; exact Fini.of ⟨_, _, ⟨(bkE_len _ _ _).trans ((turnE_len _ _ _ _ _).trans (ldE_len _ _ _)), turnE_le _ _ _ _ _ (by omega), fun h => absurd (h i (by assumption) (inn_of (by assumption))).2 (by assumption)⟩, rfl, rfl⟩ (by repeat first | exact Imp.refl _ | (apply Imp.pull; focus ((repeat first | exact Del.head _ _ | apply Del.tail); done)) | apply Imp.drop))
      | (refine finAt ?_; exact Fini.of ⟨11, _, ⟨(bkE_len _ _ _).trans (ldE_len _ _ _), by omega, fun h => absurd ⟨by assumption, by assumption⟩ (h i (by assumption) (inn_of (by assumption))).1⟩, rfl, rfl⟩ (by repeat first | exact Imp.refl _ | (apply Imp.pull; focus ((repeat first | exact Del.head _ _ | apply Del.tail); done)) | apply Imp.drop))
      | (refine finAt ?_; obtain rfl : i = l.length := (by omega); exact Fini.of ⟨0, _, ⟨ldE_len _ _ _, by omega, fun _ => ⟨rfl, rfl⟩⟩, rfl, rfl⟩ (by repeat first | exact Imp.refl _ | (apply Imp.pull; focus ((repeat first | exact Del.head _ _ | apply Del.tail); done)) | apply Imp.drop))
      | refine Pw.LkG.stkg ?_
      | exact ⟨rfl, hok, by omega, by omega⟩
      | refine T.pk 5 [10] (.p 2 (.p 3 (.p 6 (.p 7 (.d 8 (.g 9 (.p 0 (.g 1 (.p 4 (.g 5 (.n 10 (.p 11 (.p 12 (.p 13 (.p 14 (.p 15 (.p 16 (.d 17 (.g 18 (.d 19 (.g 20 (.d 21 (.g 22 (.p 23 (.p 24 (.p 25 .fin)))))))))))))))))))))))))) ?_
      | refine T.pk 8 [9] (.p 0 (.p 1 (.d 2 (.g 3 (.d 4 (.g 5 (.d 6 (.g 7 (.p 8 (.n 9 (.p 10 .fin))))))))))) ?_
      | refine And.intro (fun hc => ?_) (fun hc => ?_)
      | refine And.intro ?_ ?_
      | intro b
      | refine stk ?_
      | refine stp ?_
      | refine TQ.finC ?_
      | refine TQ.finC2 ?_
      | refine TQ.finC3 ?_
      | refine ⟨fun hc => ?_, fun hc => ?_⟩
      | refine Ei.f ?_
      | refine ⟨?_, ?_⟩
      | intro b
      | exact absurd rfl hc
      | exact absurd hc (by decide)
      | omega
      | (dsimp only; omega)
      | fail)

end Go.Proofs.Ytfgpnipnaaeafaa

