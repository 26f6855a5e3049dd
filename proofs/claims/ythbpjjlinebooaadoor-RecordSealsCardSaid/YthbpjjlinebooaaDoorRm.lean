/- Lemmas for the proofs of this seat: no statement of the seat is claimed here. -/
import Derived.Test.YthbpjjlinebooaaDoorRd
import Derived.Test.YthbpjjlinebooaaDoorKc
set_option linter.all false

namespace Go.Proofs.YthbpjjlinebooaaDoor
open Go Pw
set_option maxRecDepth 20000
set_option maxHeartbeats 4000000
set_option synthInstance.maxHeartbeats 400000
set_option synthInstance.maxSize 4000
set_option maxHeartbeats 2000000

abbrev quO : Obj := .cells (qsE.flatMap qf).toArray 150 (0, 0)
instance {L R : List Assn} [hd : DelC quA L R] : Pt0 L quO := ⟨hd.h.lmem⟩
abbrev pcV (x : Nat) : List Value := [.int .u16 (x : Nat)]
instance : FLen pcV (no_index 1) := ⟨fun _ => rfl⟩
abbrev u8V (x : Nat) : List Value := [.int .u8 (x : Nat)]
instance : FLen u8V (no_index 1) := ⟨fun _ => rfl⟩
theorem len12 {α : Type} : ∀ {l : List α}, l.length = 12 → ∃ i0 i1 i2 i3 i4 i5 i6 i7 i8 i9 i10 i11, l = [i0, i1, i2, i3, i4, i5, i6, i7, i8, i9, i10, i11]
  | [i0, i1, i2, i3, i4, i5, i6, i7, i8, i9, i10, i11], _ => ⟨i0, i1, i2, i3, i4, i5, i6, i7, i8, i9, i10, i11, rfl⟩
structure Stp where
  (k : Nat) (t : List UInt8) (pad : Int) (raw : Bool) (at_ : Int) (by_ : Nat)
instance : Inhabited Stp := ⟨⟨0, [], 0, false, 0, 0⟩⟩
abbrev stpV (x : Stp) : List Value := [.int .u8 (x.k : Nat), str x.t, .int .i64 x.pad, .bool x.raw, .int .i64 x.at_, .int .u8 (x.by_ : Nat)]
instance : FLen stpV (no_index 6) := ⟨fun _ => rfl⟩
/-- What a step's parts may be. -/
def Stp.ok (x : Stp) : Prop := x.k < 256 ∧ x.t.length < 4611686018427387904 ∧ (-9223372036854775808 ≤ x.pad ∧ x.pad < 9223372036854775808) ∧ (-9223372036854775808 ≤ x.at_ ∧ x.at_ < 9223372036854775808) ∧ x.by_ < 256
theorem heavy_spec (l : List Stp) (h : Array Obj) (a : Option Addr) (k : Nat) [hI0 : InpC h quO a 6 l.length k (l.flatMap stpV)] (hok : ∀ j, (gt l j).ok) (hl : l.length < 4611686018427387904) :
    Sat Tryd.prog 16 [.slice a l.length k] [quA, oldX h] (fun u L' => ∃ b, u = .bool b ∧ L' = [quA, oldX h] ∧ (b = false → l.length ≤ 40 ∧ ∀ j < l.length, (gt l j).t.length ≤ 8192)) := by
  all_goals
    refine Sat.enter Tryd.func16 rfl Tryd.ntmps16 rfl (fun c R => ?_)
    try simp only [List.cons_append, List.nil_append]
    repeat' (first
      | (refine T.atB 0 ?_; refine T.lpa 0 [(0, _)] ((0, 0) : Nat × Int) (fun z => [(4, .int .i64 (z.1 : Nat)), (3, .int .i64 z.2)]) (fun z => []) (fun z => z.1 ≤ l.length ∧ 0 ≤ z.2 ∧ z.2 < 4611686018427485000 ∧ ∀ j < z.1, ((gt l j).t.length : Int) ≤ z.2) (fun z => l.length - z.1) ⟨Nat.zero_le _, by decide, by decide, fun j hj => absurd hj (Nat.not_lt_zero _)⟩ ?_; rintro ⟨i, n⟩ g ⟨hI, h0, h1, hj⟩; dsimp only at hI h0 h1 hj ⊢; have hoi := hok i; unfold Stp.ok at hoi; simp only [List.cons_append, List.nil_append, appR])
      | (refine TQ.atL ?_; refine TQ.rd ((i + 1, _) : Nat × Int) rfl ⟨rfl, rfl, rfl, trivial⟩ ⟨by dsimp only; omega, by dsimp only; omega, by dsimp only; omega, fun j hj2 => ?_⟩ (by dsimp only; omega) (Ent.imp (by repeat first | exact Imp.refl _ | (apply Imp.pull; focus ((repeat first | exact Del.head _ _ | apply Del.tail); done)) | apply Imp.drop)); dsimp only at hj2 ⊢; rcases Nat.lt_or_ge j i with e | e; (have := hj j e; omega); (obtain rfl : j = i := (by omega); omega))
      | (exact Fini.of ⟨_, rfl, rfl, fun hb => absurd hb (by decide)⟩ (by repeat first | exact Imp.refl _ | (apply Imp.pull; focus ((repeat first | exact Del.head _ _ | apply Del.tail); done)) | apply Imp.drop))
      | (exact Fini.of ⟨_, rfl, rfl, fun hb => ⟨by have := of_decide_eq_false hb; omega, fun j hj2 => by have := hj j (by omega); omega⟩⟩ (by repeat first | exact Imp.refl _ | (apply Imp.pull; focus ((repeat first | exact Del.head _ _ | apply Del.tail); done)) | apply Imp.drop))
      | refine And.intro (fun hc => ?_) (fun hc => ?_)
      | refine And.intro ?_ ?_
      | intro b
      | refine stp ?_
      | refine TQ.finC ?_
      | refine TQ.finC2 ?_
      | refine TQ.finC3 ?_
      | refine ⟨fun hc => ?_, fun hc => ?_⟩
      | refine Ei.f ?_
      | refine ⟨?_, ?_⟩
      | intro b
      | omega
      | (dsimp only; omega)
      | (simp only [show IntKind.i64.lim = 9223372036854775808 from rfl]; omega)
      | fail)

end Go.Proofs.YthbpjjlinebooaaDoor

