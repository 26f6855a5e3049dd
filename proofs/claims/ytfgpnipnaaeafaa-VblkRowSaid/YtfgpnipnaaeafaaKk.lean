/- Lemmas for the proofs of this seat: no statement of the seat is claimed here. -/
import Derived.Test.YtfgpnipnaaeafaaKj
set_option linter.all false

namespace Go.Proofs.Ytfgpnipnaaeafaa
open Go Pw
set_option maxRecDepth 20000
set_option maxHeartbeats 4000000
set_option synthInstance.maxHeartbeats 400000
set_option synthInstance.maxSize 4000
set_option maxHeartbeats 4000000

abbrev u16W (n : Nat) : Value := .int .u16 n
/-- The marks of a descriptor. -/
def flgE (m i : Nat) (b : Bf) : Nat := (if i + 1 < m then 1 else 0) ||| (if b.inn then 2 else 0)
def nxtE (d : List Nat) (i : Nat) : Nat := if i + 1 < d.length then gt d (i + 1) else 0
def wr4 (bs : List UInt8) (lt : List Bool) (A x y f nx : Nat) : List UInt8 :=
  (writeE (writeE (writeE (writeE bs lt A (leB x 8) false 11).2 lt (A + 8) (leB y 4) false 11).2 lt (A + 12) (leB f 2) false 11).2 lt (A + 14) (leB nx 2) false 11).2
def wrE (bs : List UInt8) (lt : List Bool) (at_ : Nat) (d : List Nat) (i : Nat) (b : Bf) : List UInt8 := wr4 bs lt (at_ + 16 * gt d i) b.at_ b.len (flgE d.length i b) (nxtE d i)
attribute [local irreducible] writeE
theorem write_spec (r p at_ n nx ls k i nb kb : Nat) (vp vt : Value) (br : Bool) (a ab : Option Addr) (d : List Nat) (bf : Bf) (bs : List UInt8) (lt : List Bool) (hi : i < d.length) (hd : ∀ x ∈ d, x < 256) (ha : at_ ≤ 1048576) (hn : d.length ≤ 8) (hb : bf.ok) :
    Sat Try.prog 52 [.pointer (some ⟨r, 0, none⟩), .agg #[.slice a d.length k, .slice ab nb kb], .int .i64 (i : Nat), .agg (bufV bf).toArray] [row 84 r [.pointer (some ⟨p, 0, none⟩), .int .u32 at_, .int .i64 n, vp, vt, .int .u16 nx, .int .u16 ls, .bool br], memA p bs lt, Pw.sl 39 (0 + 1) (.slice a d.length k) d.length (d.map u16W)] (fun u L' => u = .tuple #[] ∧ L' = [row 84 r [.pointer (some ⟨p, 0, none⟩), .int .u32 at_, .int .i64 n, vp, vt, .int .u16 nx, .int .u16 ls, .bool br], memA p (wrE bs lt at_ d i bf) lt, Pw.sl 39 (0 + 1) (.slice a d.length k) d.length (d.map u16W)]) := by
  have hd1 : gt d i < 256 := gt_all' hd hi
  have hd2 : i + 1 < d.length → gt d (i + 1) < 256 := fun h => gt_all' hd h
  have hb1 := hb.at_
  have hb2 := hb.len
  all_goals
    refine Sat.enter Try.func52 rfl Try.ntmps52 rfl (fun c R => ?_)
    try simp only [List.cons_append, List.nil_append]
    repeat' (first
      | (refine finAt ?_; unfold wrE wr4 flgE nxtE; (first | simp only [if_pos ‹i + 1 < d.length›] | simp only [if_neg ‹¬ i + 1 < d.length›]); (first | simp only [if_pos ‹bf.inn = true›] | simp only [if_neg (show ¬ bf.inn = true from by rw [‹bf.inn = false›]; exact Bool.false_ne_true)]); exact Fini.of ⟨rfl, rfl⟩ (by repeat first | exact Imp.refl _ | (apply Imp.pull; focus ((repeat first | exact Del.head _ _ | apply Del.tail); done)) | apply Imp.drop))
      | exact hb.at_
      | exact hb.len
      | refine T.pk 1 [] (.p 0 (.p 1 (.p 6 (.d 2 (.g 3 (.d 4 (.g 5 (.d 7 (.g 8 (.p 9 (.p 10 (.p 11 (.p 12 .fin))))))))))))) ?_
      | refine T.pk 4 [] (.p 2 (.p 3 (.p 6 (.d 0 (.g 1 (.d 4 (.g 5 (.p 7 .fin)))))))) ?_
      | refine T.pk 7 [8] (.p 0 (.p 1 (.p 4 (.d 2 (.g 3 (.d 5 (.g 6 (.p 7 (.n 8 .fin))))))))) ?_
      | refine T.pk 8 [8] (.p 0 (.p 1 (.p 4 (.p 5 (.d 2 (.g 3 (.d 6 (.g 7 (.n 8 .fin))))))))) ?_
      | refine And.intro (fun hc => ?_) (fun hc => ?_)
      | refine And.intro ?_ ?_
      | intro b
      | refine stk ?_
      | refine stp ?_
      | refine TQ.finC ?_
      | refine TQ.finC2 ?_
      | refine TQ.finC3 ?_
      | refine ⟨fun hc => ?_, fun hc => ?_⟩
      | refine Ei.f ?_
      | refine ⟨?_, ?_⟩
      | intro b
      | exact absurd rfl hc
      | exact absurd hc (by decide)
      | omega
      | (dsimp only; omega)
      | fail)

end Go.Proofs.Ytfgpnipnaaeafaa

