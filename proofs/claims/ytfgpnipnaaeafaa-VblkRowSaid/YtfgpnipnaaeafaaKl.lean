/- Lemmas for the proofs of this seat: no statement of the seat is claimed here. -/
import Derived.Test.YtfgpnipnaaeafaaKk
set_option linter.all false

namespace Go.Proofs.Ytfgpnipnaaeafaa
open Go Pw
set_option maxRecDepth 20000
set_option maxHeartbeats 4000000
set_option synthInstance.maxHeartbeats 400000
set_option synthInstance.maxSize 4000
set_option maxHeartbeats 4000000
instance {L R : List Assn} {r at_ n nx ls : Nat} {vp : Value} {br : Bool} {vm vt : Value} [h1 : RowDel L r 84 [vm, .int .u32 (at_ : Nat), .int .i64 (n : Nat), vp, vt, .int .u16 (nx : Nat), .int .u16 (ls : Nat), .bool br] R] : FnR Try.prog 36 [.pointer (some ⟨r, 0, none⟩)] L (fun kk => Vc (n ≤ 256 ∧ at_ ≤ 1048576) (kk (.int .u32 (at_ + partN n : Nat)) (row 84 r [vm, .int .u32 (at_ : Nat), .int .i64 (n : Nat), vp, vt, .int .u16 (nx : Nat), .int .u16 (ls : Nat), .bool br] :: R))) :=
  ⟨fun kk h => ⟨_, R, _, used_spec r at_ n nx ls vm vp vt br h.l.1 h.l.2, .cons h1.h (.nil _), fun v L' hv => by rw [hv.1, hv.2]; exact h.r⟩⟩
instance {L R : List Assn} {r at_ n nx ls : Nat} {vp : Value} {br : Bool} {vm vt : Value} [h1 : RowDel L r 84 [vm, .int .u32 (at_ : Nat), .int .i64 (n : Nat), vp, vt, .int .u16 (nx : Nat), .int .u16 (ls : Nat), .bool br] R] : FnR Try.prog 14 [.pointer (some ⟨r, 0, none⟩)] L (fun kk => Vc (n ≤ 256 ∧ at_ ≤ 1048576) (kk (.int .u32 (at_ + 16 * n : Nat)) (row 84 r [vm, .int .u32 (at_ : Nat), .int .i64 (n : Nat), vp, vt, .int .u16 (nx : Nat), .int .u16 (ls : Nat), .bool br] :: R))) :=
  ⟨fun kk h => ⟨_, R, _, avail_spec r at_ n nx ls vm vp vt br h.l.1 h.l.2, .cons h1.h (.nil _), fun v L' hv => by rw [hv.1, hv.2]; exact h.r⟩⟩
instance {L R : List Assn} {r at_ n nx ls : Nat} {vp : Value} {br : Bool} {R1 : List Assn} {vm : Value} {a : Option Addr} {m k : Nat} {tk : List Bool} [h1 : RowDel L r 84 [vm, .int .u32 (at_ : Nat), .int .i64 (n : Nat), vp, .slice a m k, .int .u16 (nx : Nat), .int .u16 (ls : Nat), .bool br] R1] [h2 : SlAt R1 (.slice a m k) 4 (0 + 1) m (tk.map Value.bool) R] : FnR Try.prog 68 [.pointer (some ⟨r, 0, none⟩)] L (fun kk => Vc (m = tk.length ∧ m ≤ 256) (kk (.int .i64 (cntF tk tk.length : Nat)) (row 84 r [vm, .int .u32 (at_ : Nat), .int .i64 (n : Nat), vp, .slice a tk.length k, .int .u16 (nx : Nat), .int .u16 (ls : Nat), .bool br] :: Pw.sl 4 (0 + 1) (.slice a tk.length k) tk.length (tk.map Value.bool) :: R))) :=
  ⟨fun kk h => by
    obtain ⟨⟨rfl, h3⟩, h4⟩ := h
    exact ⟨_, R, _, left_spec r at_ n nx ls k vm vp br a tk h3, .cons h1.h (.cons h2.h (.nil _)), fun v L' hv => by rw [hv.1, hv.2]; exact h4⟩⟩
instance {L R : List Assn} {r at_ n nx ls : Nat} {vp : Value} {br : Bool} {R1 R2 : List Assn} {vt : Value} {p : Nat} {a : Option Addr} {m k : Nat} {l : List Bf} {bs : List UInt8} {lt : List Bool} [h1 : RowDel L r 84 [.pointer (some ⟨p, 0, none⟩), .int .u32 (at_ : Nat), .int .i64 (n : Nat), vp, vt, .int .u16 (nx : Nat), .int .u16 (ls : Nat), .bool br] R1] [h2 : MemAt R1 p bs lt R2] [h3 : SlAt R2 (.slice a m k) 90 (2 + 1) m (l.flatMap bufV) R] : FnR Try.prog 69 [.pointer (some ⟨r, 0, none⟩), .slice a m k] L (fun kk => Vc (m = l.length ∧ (∀ b ∈ l, b.ok) ∧ m ≤ 1000) (kk (.tuple #[]) (row 84 r [.pointer (some ⟨p, 0, none⟩), .int .u32 (at_ : Nat), .int .i64 (n : Nat), vp, vt, .int .u16 (nx : Nat), .int .u16 (ls : Nat), .bool br] :: memA p bs (bkE lt l l.length) :: Pw.sl 90 (2 + 1) (.slice a l.length k) l.length (l.flatMap bufV) :: R))) :=
  ⟨fun kk h => by
    obtain ⟨⟨rfl, h4, h5⟩, h6⟩ := h
    exact ⟨_, R, _, back_spec r p at_ n nx ls k vp vt br a l bs lt h4 h5, .cons h1.h (.cons h2.h (.cons h3.h (.nil _))), fun v L' hv => by rw [hv.1, hv.2]; exact h6⟩⟩

end Go.Proofs.Ytfgpnipnaaeafaa


namespace Go.Proofs.Ytfgpnipnaaeafaa
open Go Pw
set_option maxRecDepth 20000
set_option maxHeartbeats 4000000
set_option synthInstance.maxHeartbeats 400000
set_option synthInstance.maxSize 4000
set_option maxHeartbeats 4000000

/-- What is lent stays as it is. -/
structure KeepP (lt : List Bool) (bs bs2 : List UInt8) : Prop where
  len : bs2.length = bs.length
  keep : ∀ k : Nat, lt[k]? = some true → bs2[k]? = bs[k]?
theorem KeepP.rfl {lt : List Bool} {bs : List UInt8} : KeepP lt bs bs := ⟨Eq.refl _, fun _ _ => Eq.refl _⟩
theorem KeepP.trans {lt : List Bool} {a b c : List UInt8} (h : KeepP lt a b) (k : KeepP lt b c) : KeepP lt a c := ⟨k.len.trans h.len, fun i hi => (k.keep i hi).trans (h.keep i hi)⟩
theorem writeE_keep (bs : List UInt8) (lt : List Bool) (a : Nat) (s : List UInt8) (e : Nat) : KeepP lt bs (writeE bs lt a s false e).2 := by
  refine ⟨writeE_len _ _ _ _ _ _, fun k hk => ?_⟩
  unfold writeE
  split
  · rename_i h
    split
    · rename_i h2
      have hkl : k < lt.length := by
        rcases Nat.lt_or_ge k lt.length with h5 | h5
        · exact h5
        · rw [List.getElem?_eq_none h5] at hk; cases hk
      show (putB bs a s)[k]? = _
      unfold putB
      by_cases h3 : k < a
      · rw [List.getElem?_append_left (by simp; omega), List.getElem?_append_left (by simp; omega), List.getElem?_take, if_pos h3]
      · by_cases h4 : k < a + s.length
        · exfalso
          unfold allB at h2
          rw [List.all_eq_true] at h2
          have h6 : (((lt.drop a).take s.length)[k - a]?) = some true := by
            rw [List.getElem?_take, if_pos (by omega), List.getElem?_drop, show a + (k - a) = k by omega]; exact hk
          have := h2 true (List.mem_of_getElem? h6)
          simp at this
        · rw [List.getElem?_append_right (by simp; omega), List.getElem?_drop]
          congr 1
          simp; omega
    · exact Eq.refl _
  · exact Eq.refl _
theorem wr4_keep (bs : List UInt8) (lt : List Bool) (A x y f nx : Nat) : KeepP lt bs (wr4 bs lt A x y f nx) := by
  unfold wr4
  exact (((writeE_keep _ _ _ _ _).trans (writeE_keep _ _ _ _ _)).trans (writeE_keep _ _ _ _ _)).trans (writeE_keep _ _ _ _ _)
theorem wr4_len (bs : List UInt8) (lt : List Bool) (A x y f nx : Nat) : (wr4 bs lt A x y f nx).length = bs.length := by
  unfold wr4; rw [writeE_len, writeE_len, writeE_len, writeE_len]
theorem bkS_len (lt : List Bool) (b : Bf) : (bkS lt b).length = lt.length := by
  unfold bkS; split
  · exact turnE_len _ _ _ _ _
  · rfl
theorem bkE_len (lt : List Bool) (l : List Bf) : ∀ i, (bkE lt l i).length = lt.length
  | 0 => rfl
  | i + 1 => by
    show (bkS (bkE lt l i) (gt l i)).length = _
    rw [bkS_len, bkE_len lt l i]
theorem bkE_out (lt : List Bool) (l : List Bf) (h : ∀ b ∈ l, b.inn = false) : ∀ i, i ≤ l.length → bkE lt l i = lt
  | 0, _ => rfl
  | i + 1, hi => by
    show bkS (bkE lt l i) (gt l i) = _
    rw [bkE_out lt l h i (by omega)]
    unfold bkS
    rw [if_neg (by rw [gt_all' (q := fun b : Bf => b.inn = false) h (j := i) (by omega)]; exact Bool.false_ne_true)]
theorem turnE_le (lt : List Bool) (a l : Nat) (x : Bool) (e : Nat) (h : e ≤ 20) : (turnE lt a l x e).1 ≤ 20 := by
  unfold turnE; split
  · split <;> simp <;> omega
  · simp
instance {L R : List Assn} {r at_ n nx ls : Nat} {vp : Value} {br : Bool} {R1 R2 : List Assn} {vt : Value} {p nb kb m k i : Nat} {x y z : Int} {w : Bool} {a ab : Option Addr} {d : List Nat} {bf : Bf} {bs : List UInt8} {lt : List Bool} [h1 : RowDel L r 84 [.pointer (some ⟨p, 0, none⟩), .int .u32 (at_ : Nat), .int .i64 (n : Nat), vp, vt, .int .u16 (nx : Nat), .int .u16 (ls : Nat), .bool br] R1] [h2 : MemAt R1 p bs lt R2] [h3 : SlAt R2 (.slice a m k) 39 (0 + 1) m (d.map u16W) R] [hx : Nn x i] [hy : InvL bufV [.int .u32 y, .int .u32 z, .bool w] bf] : FnR Try.prog 52 [.pointer (some ⟨r, 0, none⟩), .agg #[.slice a m k, .slice ab nb kb], .int .i64 x, .agg #[.int .u32 y, .int .u32 z, .bool w]] L (fun kk => Vc (m = d.length ∧ i < d.length ∧ (∀ x ∈ d, x < 256) ∧ at_ ≤ 1048576 ∧ d.length ≤ 8 ∧ bf.ok) (∀ bs2, KeepP lt bs bs2 → kk (.tuple #[]) (row 84 r [.pointer (some ⟨p, 0, none⟩), .int .u32 (at_ : Nat), .int .i64 (n : Nat), vp, vt, .int .u16 (nx : Nat), .int .u16 (ls : Nat), .bool br] :: memA p bs2 lt :: Pw.sl 39 (0 + 1) (.slice a m k) m (d.map u16W) :: R))) :=
  ⟨fun kk h => by
    obtain ⟨⟨rfl, h4, h5, h6, h7, h8⟩, h9⟩ := h
    rw [hx.h, ← hy.h]
    exact ⟨_, R, _, write_spec r p at_ n nx ls k i nb kb vp vt br a ab d bf bs lt h4 h5 h6 h7 h8, .cons h1.h (.cons h2.h (.cons h3.h (.nil _))), fun v L' hv => by rw [hv.1, hv.2]; exact h9 _ (wr4_keep _ _ _ _ _ _ _)⟩⟩
theorem write_bf {L : List Assn} {a1 a2 a3 : Value} {bf : Bf} {W : (Value → List Assn → Prop) → Prop} (h : FnR Try.prog 52 [a1, a2, a3, .agg #[.int .u32 (bf.at_ : Nat), .int .u32 (bf.len : Nat), .bool bf.inn]] L W) : FnR Try.prog 52 [a1, a2, a3, .agg (bufV bf).toArray] L W := h
instance {L : List Assn} {a1 a2 a3 : Value} {bf : Bf} {W : (Value → List Assn → Prop) → Prop} [h : FnR Try.prog 52 [a1, a2, a3, .agg #[.int .u32 (bf.at_ : Nat), .int .u32 (bf.len : Nat), .bool bf.inn]] L W] : FnR Try.prog 52 [a1, a2, a3, .agg (bufV bf).toArray] L W := h
instance {b : Bf} : InvL bufV [.int .u32 (b.at_ : Nat), .int .u32 (b.len : Nat), .bool b.inn] b := ⟨rfl⟩
instance {L R : List Assn} {r at_ n nx ls : Nat} {vm vp : Value} {br : Bool} {R1 R2 R3 : List Assn} {ci bx m k : Nat} {x : Int} {a : Option Addr} {tk : List Bool} [h0 : RowDel L ci 3 [.int .i64 x] R1] [h1 : RowDel R1 bx 37 [.pointer (some ⟨r, 0, none⟩)] R2] [h2 : RowDel R2 r 84 [vm, .int .u32 (at_ : Nat), .int .i64 (n : Nat), vp, .slice a m k, .int .u16 (nx : Nat), .int .u16 (ls : Nat), .bool br] R3] [h3 : SlAt R3 (.slice a m k) 4 (0 + 1) m (tk.map Value.bool) R] : FnR Try.prog 70 [.pointer (some ⟨ci, 0, none⟩), .pointer (some ⟨bx, 0, none⟩)] L (fun kk => Vc (m = tk.length ∧ tk.length ≤ 256 ∧ ∃ m0, 0 ≤ x + 1 ∧ (x + 1).toNat ≤ m0 ∧ m0 < tk.length ∧ gt tk m0 = false) (kk (.int .u16 (nxtF tk (x + 1).toNat : Nat)) (row 3 ci [.int .i64 (nxtF tk (x + 1).toNat : Nat)] :: row 37 bx [.pointer (some ⟨r, 0, none⟩)] :: row 84 r [vm, .int .u32 (at_ : Nat), .int .i64 (n : Nat), vp, .slice a m k, .int .u16 (nx : Nat), .int .u16 (ls : Nat), .bool br] :: Pw.sl 4 (0 + 1) (.slice a m k) m ((tk.set (nxtF tk (x + 1).toNat) true).map Value.bool) :: R))) :=
  ⟨fun kk h => by
    obtain ⟨⟨rfl, h4, m0, h0', h5, h6, h7⟩, h9⟩ := h
    exact ⟨_, R, _, next_spec ci bx r at_ n nx ls k _ m0 x vm vp br a tk h4 (Int.toNat_of_nonneg h0').symm h5 h6 h7, .cons h0.h (.cons h1.h (.cons h2.h (.cons h3.h (.nil _)))), fun v L' hv => by rw [hv.1, hv.2]; exact h9⟩⟩
class PreAt (L : List Assn) (a : Option Addr) (m : Nat) (e : outParam TypeId) (sz n : outParam Nat) (xs : outParam (List Value)) (R : outParam (List Assn)) : Prop where h : Del (Pw.sl e sz (.slice a n m) n xs) L R
instance (priority := 1100) {L : List Assn} {a : Option Addr} {m : Nat} {e : TypeId} {sz n : Nat} {xs : List Value} : PreAt (Pw.sl e sz (.slice a n m) n xs :: L) a m e sz n xs L := ⟨.head _ _⟩
instance {A : Assn} {L R : List Assn} {a : Option Addr} {m : Nat} {e : TypeId} {sz n : Nat} {xs : List Value} [h : PreAt L a m e sz n xs R] : PreAt (A :: L) a m e sz n xs (A :: R) := ⟨.tail h.h⟩
instance (priority := 900) {L R : List Assn} {r at_ n nx ls : Nat} {vp : Value} {br : Bool} {R1 R2 : List Assn} {vt : Value} {p : Nat} {a : Option Addr} {m q k : Nat} {l : List Bf} {bs : List UInt8} {lt : List Bool} [h1 : RowDel L r 84 [.pointer (some ⟨p, 0, none⟩), .int .u32 (at_ : Nat), .int .i64 (n : Nat), vp, vt, .int .u16 (nx : Nat), .int .u16 (ls : Nat), .bool br] R1] [h2 : MemAt R1 p bs lt R2] [h3 : PreAt R2 a k 90 (2 + 1) q (l.flatMap bufV) R] : FnR Try.prog 69 [.pointer (some ⟨r, 0, none⟩), .slice a m k] L (fun kk => Vc (q = l.length ∧ (∀ b ∈ l, b.ok) ∧ l.length ≤ 1000 ∧ m ≤ l.length) (kk (.tuple #[]) (row 84 r [.pointer (some ⟨p, 0, none⟩), .int .u32 (at_ : Nat), .int .i64 (n : Nat), vp, vt, .int .u16 (nx : Nat), .int .u16 (ls : Nat), .bool br] :: memA p bs (bkE lt l m) :: Pw.sl 90 (2 + 1) (.slice a l.length k) l.length (l.flatMap bufV) :: R))) :=
  ⟨fun kk h => by
    obtain ⟨⟨rfl, h4, h5, h7⟩, h6⟩ := h
    exact ⟨_, R, _, back_pre r p at_ n nx ls k m vp vt br a l bs lt h4 h5 h7, .cons h1.h (.cons h2.h (.cons h3.h (.nil _))), fun v L' hv => by rw [hv.1, hv.2]; exact h6⟩⟩

end Go.Proofs.Ytfgpnipnaaeafaa

