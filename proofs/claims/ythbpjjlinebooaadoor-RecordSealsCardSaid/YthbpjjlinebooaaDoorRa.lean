/- Lemmas for the proofs of this seat: no statement of the seat is claimed here. -/
import Derived.Test.YthbpjjlinebooaaDoorKf
import Derived.Test.YthbpjjlinebooaaDoorKc
set_option linter.all false

namespace Go.Proofs.YthbpjjlinebooaaDoor
open Go Pw
set_option maxRecDepth 20000
set_option maxHeartbeats 4000000
set_option maxHeartbeats 1000000

instance : Cal Tryd.prog 68 := ⟨Tryd.call68⟩
instance : Cal Tryd.prog 69 := ⟨Tryd.call69⟩
instance : Cal Tryd.prog 70 := ⟨Tryd.call70⟩
abbrev recV (r : Nat × List UInt8) : List Value := [.int .u8 r.1, str r.2]
instance : FLen recV (no_index 2) := ⟨fun _ => rfl⟩
def kindP (k : Nat) : Prop := 20 ≤ k ∧ k ≤ 23
instance {k : Nat} : Decidable (kindP k) := inferInstanceAs (Decidable (20 ≤ k ∧ k ≤ 23))
def bndE (k : Nat) : Nat := if k = 23 then 16640 else 16384
def lngE (b : List UInt8) : Nat := (gt b 3).toNat * 2 ^ 8 ||| (gt b 4).toNat
def fltE (b : List UInt8) : Nat :=
  if b.length = 1 then (if kindP (gt b 0).toNat then 0 else 253)
  else if b.length = 2 then (if (gt b 1).toNat = 3 then 0 else 250)
  else if b.length = 5 then (if bndE (gt b 0).toNat < lngE b then 251 else if lngE b = 0 ∧ (gt b 0).toNat ≠ 23 then 253 else 0)
  else 0
/-- A byte more: what is left of it, its fault, a record. -/
def takeE (b : List UInt8) (c : UInt8) : List UInt8 × Nat × Option (Nat × List UInt8) :=
  if fltE (b ++ [c]) ≠ 0 ∨ (b ++ [c]).length < 5 ∨ (b ++ [c]).length < 5 + lngE (b ++ [c]) then (b ++ [c], fltE (b ++ [c]), none)
  else ([], 0, some ((gt (b ++ [c]) 0).toNat, (b ++ [c]).drop 5))
theorem lng_lt (b : List UInt8) : lngE b < 65536 := Nat.or_lt_two_pow (n := 16) (by have := (gt b 3).toNat_lt; omega) (Nat.lt_trans (gt b 4).toNat_lt (by decide))
theorem kind_spec (k : Nat) :
    Sat Tryd.prog 44 [.int .u8 k] [] (fun u L' => u = .bool (decide (kindP k)) ∧ L' = []) := by
  all_goals
    refine Sat.enter Tryd.func44 rfl Tryd.ntmps44 rfl (fun c R => ?_)
    try simp only [List.cons_append, List.nil_append]
    repeat' (first
      | exact Fini.mk ⟨congrArg Value.bool (decide_eq_decide.2 (by unfold kindP; omega)), rfl⟩
      | exact Fini.mk ⟨by rw [decide_eq_false (by unfold kindP; omega)]; rfl, rfl⟩
      | refine And.intro (fun hc => ?_) (fun hc => ?_)
      | refine And.intro ?_ ?_
      | intro b
      | refine stp ?_
      | refine TQ.finC ?_
      | refine TQ.finC2 ?_
      | refine TQ.finC3 ?_
      | refine ⟨fun hc => ?_, fun hc => ?_⟩
      | refine Ei.f ?_
      | refine ⟨?_, ?_⟩
      | intro b
      | omega
      | (dsimp only; omega)
      | fail)
instance {L : List Assn} {k : Nat} {x : Int} [hx : Nn x k] : FnR Tryd.prog 44 [.int .u8 x] L (fun kk => Vc (True) (kk (.bool (decide (kindP k))) L)) := ⟨fun kk h => ⟨[], L, _, (by rw [hx.h]; exact kind_spec k), .nil _, fun v L' hq => by rw [hq.1, hq.2]; exact h.r⟩⟩
theorem bound_spec (k : Nat) :
    Sat Tryd.prog 46 [.int .u8 k] [] (fun u L' => u = .int .i64 (bndE k : Nat) ∧ L' = []) := by
  all_goals
    refine Sat.enter Tryd.func46 rfl Tryd.ntmps46 rfl (fun c R => ?_)
    try simp only [List.cons_append, List.nil_append]
    repeat' (first
      | exact Fini.mk ⟨by rw [bndE, if_pos hc]; rfl, rfl⟩
      | exact Fini.mk ⟨by rw [bndE, if_neg hc]; rfl, rfl⟩
      | refine And.intro (fun hc => ?_) (fun hc => ?_)
      | refine And.intro ?_ ?_
      | intro b
      | refine stp ?_
      | refine TQ.finC ?_
      | refine TQ.finC2 ?_
      | refine TQ.finC3 ?_
      | refine ⟨fun hc => ?_, fun hc => ?_⟩
      | refine Ei.f ?_
      | refine ⟨?_, ?_⟩
      | intro b
      | omega
      | (dsimp only; omega)
      | fail)
instance {L : List Assn} {k : Nat} {x : Int} [hx : Nn x k] : FnR Tryd.prog 46 [.int .u8 x] L (fun kk => Vc (True) (kk (.int .i64 (bndE k : Nat)) L)) := ⟨fun kk h => ⟨[], L, _, (by rw [hx.h]; exact bound_spec k), .nil _, fun v L' hq => by rw [hq.1, hq.2]; exact h.r⟩⟩

def begE (k n : Nat) : List UInt8 := [UInt8.ofNat k, 3, 3, UInt8.ofNat (n / 2 ^ 8 % 256), UInt8.ofNat (n % 256)]
theorem begun_spec (k n : Nat) (hk : k < 256) (hn : n < 9223372036854775808) :
    Sat Tryd.prog 37 [.int .u8 k, .int .i64 n] [] (fun u L' => u = str (begE k n) ∧ L' = []) := by
  all_goals
    refine Sat.enter Tryd.func37 rfl Tryd.ntmps37 rfl (fun c R => ?_)
    try simp only [List.cons_append, List.nil_append]
    repeat' (first
      | (refine Vc.mk ⟨hk, by decide, by decide, by omega, by omega, trivial⟩ ?_)
      | exact Fini.mk ⟨rfl, rfl⟩
      | refine And.intro (fun hc => ?_) (fun hc => ?_)
      | refine And.intro ?_ ?_
      | intro b
      | refine stp ?_
      | refine TQ.finC ?_
      | refine TQ.finC2 ?_
      | refine TQ.finC3 ?_
      | refine ⟨fun hc => ?_, fun hc => ?_⟩
      | refine Ei.f ?_
      | refine ⟨?_, ?_⟩
      | intro b
      | omega
      | (dsimp only; omega)
      | fail)
theorem long_spec (p k : Nat) (a : Option Addr) (f : Nat) (b : List UInt8) (h : 5 ≤ b.length) :
    Sat Tryd.prog 50 [.pointer (some ⟨p, 0, none⟩)] [Pw.row 80 p [.slice a b.length k, .int .i64 f, .bool true], sl 5 1 (.slice a b.length k) b.length (b.map byteV)] (fun u L' => u = .int .i64 (lngE b : Nat) ∧ L' = [Pw.row 80 p [.slice a b.length k, .int .i64 f, .bool true], sl 5 1 (.slice a b.length k) b.length (b.map byteV)]) := by
  have h3 := (gt b 3).toNat_lt
  all_goals
    refine Sat.enter Tryd.func50 rfl Tryd.ntmps50 rfl (fun c R => ?_)
    try simp only [List.cons_append, List.nil_append]
    repeat' (first
      | (exact Nat.lt_of_lt_of_le (UInt8.toNat_lt _) (by decide))
      | exact Fini.mk ⟨rfl, rfl⟩
      | refine T.pl 1 [] (.p 0 (.p 1 (.p 8 (.p 9 (.d 2 (.d 3 (.d 4 (.d 5 (.p 6 (.p 7 (.d 10 (.d 11 (.d 12 (.d 13 (.p 14 (.p 15 (.p 16 .fin))))))))))))))))) ?_
      | refine And.intro (fun hc => ?_) (fun hc => ?_)
      | refine And.intro ?_ ?_
      | intro b
      | refine stp ?_
      | refine TQ.finC ?_
      | refine TQ.finC2 ?_
      | refine TQ.finC3 ?_
      | refine ⟨fun hc => ?_, fun hc => ?_⟩
      | refine Ei.f ?_
      | refine ⟨?_, ?_⟩
      | intro b
      | omega
      | (dsimp only; omega)
      | fail)
instance {L R1 R2 : List Assn} {p n k f : Nat} {a : Option Addr} {b : List UInt8} {x : Int} [hx : Nn x f] [h1 : RowDel L p 80 [.slice a n k, .int .i64 x, .bool true] R1] [h2 : SlAt R1 (.slice a n k) 5 1 n (b.map byteV) R2] : FnR Tryd.prog 50 [.pointer (some ⟨p, 0, none⟩)] L (fun q => Vc (n = b.length ∧ 5 ≤ b.length) (q (.int .i64 (lngE b : Nat)) (Pw.row 80 p [.slice a n k, .int .i64 f, .bool true] :: sl 5 1 (.slice a n k) n (b.map byteV) :: R2))) :=
  ⟨fun q h => by
    obtain ⟨⟨rfl, hc⟩, hq⟩ := h
    exact ⟨_, R2, _, long_spec p k a f b hc, .cons (by have := h1.h; rw [hx.h] at this; exact this) (.cons h2.h (.nil _)), fun v L' hv => by rw [hv.1, hv.2]; exact hq⟩⟩
theorem kindm_spec (p k : Nat) (a : Option Addr) (f : Nat) (b : List UInt8) (h : b.length = 1) :
    Sat Tryd.prog 68 [.pointer (some ⟨p, 0, none⟩)] [Pw.row 80 p [.slice a b.length k, .int .i64 f, .bool true], sl 5 1 (.slice a b.length k) b.length (b.map byteV)] (fun u L' => u = .int .i64 (fltE b : Nat) ∧ L' = [Pw.row 80 p [.slice a b.length k, .int .i64 f, .bool true], sl 5 1 (.slice a b.length k) b.length (b.map byteV)]) := by
  all_goals
    refine Sat.enter Tryd.func68 rfl Tryd.ntmps68 rfl (fun c R => ?_)
    try simp only [List.cons_append, List.nil_append]
    repeat' (first
      | exact Fini.mk ⟨by rw [fltE, if_pos h, if_neg hc]; rfl, rfl⟩
      | exact Fini.mk ⟨by rw [fltE, if_pos h, if_pos (Decidable.not_not.1 hc)]; rfl, rfl⟩
      | refine And.intro (fun hc => ?_) (fun hc => ?_)
      | refine And.intro ?_ ?_
      | intro b
      | refine stp ?_
      | refine TQ.finC ?_
      | refine TQ.finC2 ?_
      | refine TQ.finC3 ?_
      | refine ⟨fun hc => ?_, fun hc => ?_⟩
      | refine Ei.f ?_
      | refine ⟨?_, ?_⟩
      | intro b
      | omega
      | (dsimp only; omega)
      | fail)
instance {L R1 R2 : List Assn} {p n k f : Nat} {a : Option Addr} {b : List UInt8} {x : Int} [hx : Nn x f] [h1 : RowDel L p 80 [.slice a n k, .int .i64 x, .bool true] R1] [h2 : SlAt R1 (.slice a n k) 5 1 n (b.map byteV) R2] : FnR Tryd.prog 68 [.pointer (some ⟨p, 0, none⟩)] L (fun q => Vc (n = b.length ∧ b.length = 1) (q (.int .i64 (fltE b : Nat)) (Pw.row 80 p [.slice a n k, .int .i64 f, .bool true] :: sl 5 1 (.slice a n k) n (b.map byteV) :: R2))) :=
  ⟨fun q h => by
    obtain ⟨⟨rfl, hc⟩, hq⟩ := h
    exact ⟨_, R2, _, kindm_spec p k a f b hc, .cons (by have := h1.h; rw [hx.h] at this; exact this) (.cons h2.h (.nil _)), fun v L' hv => by rw [hv.1, hv.2]; exact hq⟩⟩
theorem version_spec (p k : Nat) (a : Option Addr) (f : Nat) (b : List UInt8) (h : b.length = 2) :
    Sat Tryd.prog 69 [.pointer (some ⟨p, 0, none⟩)] [Pw.row 80 p [.slice a b.length k, .int .i64 f, .bool true], sl 5 1 (.slice a b.length k) b.length (b.map byteV)] (fun u L' => u = .int .i64 (fltE b : Nat) ∧ L' = [Pw.row 80 p [.slice a b.length k, .int .i64 f, .bool true], sl 5 1 (.slice a b.length k) b.length (b.map byteV)]) := by
  all_goals
    refine Sat.enter Tryd.func69 rfl Tryd.ntmps69 rfl (fun c R => ?_)
    try simp only [List.cons_append, List.nil_append]
    repeat' (first
      | exact Fini.mk ⟨by rw [fltE, if_neg (by omega), if_pos h, if_neg hc]; rfl, rfl⟩
      | exact Fini.mk ⟨by rw [fltE, if_neg (by omega), if_pos h, if_pos (Decidable.not_not.1 hc)]; rfl, rfl⟩
      | refine And.intro (fun hc => ?_) (fun hc => ?_)
      | refine And.intro ?_ ?_
      | intro b
      | refine stp ?_
      | refine TQ.finC ?_
      | refine TQ.finC2 ?_
      | refine TQ.finC3 ?_
      | refine ⟨fun hc => ?_, fun hc => ?_⟩
      | refine Ei.f ?_
      | refine ⟨?_, ?_⟩
      | intro b
      | omega
      | (dsimp only; omega)
      | fail)
instance {L R1 R2 : List Assn} {p n k f : Nat} {a : Option Addr} {b : List UInt8} {x : Int} [hx : Nn x f] [h1 : RowDel L p 80 [.slice a n k, .int .i64 x, .bool true] R1] [h2 : SlAt R1 (.slice a n k) 5 1 n (b.map byteV) R2] : FnR Tryd.prog 69 [.pointer (some ⟨p, 0, none⟩)] L (fun q => Vc (n = b.length ∧ b.length = 2) (q (.int .i64 (fltE b : Nat)) (Pw.row 80 p [.slice a n k, .int .i64 f, .bool true] :: sl 5 1 (.slice a n k) n (b.map byteV) :: R2))) :=
  ⟨fun q h => by
    obtain ⟨⟨rfl, hc⟩, hq⟩ := h
    exact ⟨_, R2, _, version_spec p k a f b hc, .cons (by have := h1.h; rw [hx.h] at this; exact this) (.cons h2.h (.nil _)), fun v L' hv => by rw [hv.1, hv.2]; exact hq⟩⟩
theorem length_spec (p k : Nat) (a : Option Addr) (f : Nat) (b : List UInt8) (h : b.length = 5) :
    Sat Tryd.prog 70 [.pointer (some ⟨p, 0, none⟩)] [Pw.row 80 p [.slice a b.length k, .int .i64 f, .bool true], sl 5 1 (.slice a b.length k) b.length (b.map byteV)] (fun u L' => u = .int .i64 (fltE b : Nat) ∧ L' = [Pw.row 80 p [.slice a b.length k, .int .i64 f, .bool true], sl 5 1 (.slice a b.length k) b.length (b.map byteV)]) := by
  all_goals
    refine Sat.enter Tryd.func70 rfl Tryd.ntmps70 rfl (fun c R => ?_)
    try simp only [List.cons_append, List.nil_append]
    repeat' (first
      | exact Fini.mk ⟨by rw [fltE, if_neg (by omega), if_neg (by omega), if_pos h, if_pos (by omega)]; rfl, rfl⟩
      | exact Fini.mk ⟨by rw [fltE, if_neg (by omega), if_neg (by omega), if_pos h, if_neg (by omega), if_pos (by omega)]; rfl, rfl⟩
      | exact Fini.mk ⟨by rw [fltE, if_neg (by omega), if_neg (by omega), if_pos h, if_neg (by omega), if_neg (by omega)]; rfl, rfl⟩
      | refine And.intro (fun hc => ?_) (fun hc => ?_)
      | refine And.intro ?_ ?_
      | intro b
      | refine stp ?_
      | refine TQ.finC ?_
      | refine TQ.finC2 ?_
      | refine TQ.finC3 ?_
      | refine ⟨fun hc => ?_, fun hc => ?_⟩
      | refine Ei.f ?_
      | refine ⟨?_, ?_⟩
      | intro b
      | omega
      | (dsimp only; omega)
      | fail)
instance {L R1 R2 : List Assn} {p n k f : Nat} {a : Option Addr} {b : List UInt8} {x : Int} [hx : Nn x f] [h1 : RowDel L p 80 [.slice a n k, .int .i64 x, .bool true] R1] [h2 : SlAt R1 (.slice a n k) 5 1 n (b.map byteV) R2] : FnR Tryd.prog 70 [.pointer (some ⟨p, 0, none⟩)] L (fun q => Vc (n = b.length ∧ b.length = 5) (q (.int .i64 (fltE b : Nat)) (Pw.row 80 p [.slice a n k, .int .i64 f, .bool true] :: sl 5 1 (.slice a n k) n (b.map byteV) :: R2))) :=
  ⟨fun q h => by
    obtain ⟨⟨rfl, hc⟩, hq⟩ := h
    exact ⟨_, R2, _, length_spec p k a f b hc, .cons (by have := h1.h; rw [hx.h] at this; exact this) (.cons h2.h (.nil _)), fun v L' hv => by rw [hv.1, hv.2]; exact hq⟩⟩

end Go.Proofs.YthbpjjlinebooaaDoor


namespace Go.Proofs.YthbpjjlinebooaaDoor
open Go Pw
set_option maxRecDepth 20000
set_option maxHeartbeats 4000000
set_option maxHeartbeats 1000000
attribute [local irreducible] fltE lngE takeE
theorem rkind_spec (k : Nat) :
    Sat Tryd.prog 47 [.int .u8 k] [] (fun u L' => u = .bool (decide (kindP k)) ∧ L' = []) := by
  all_goals
    refine Sat.enter Tryd.func47 rfl Tryd.ntmps47 rfl (fun c R => ?_)
    try simp only [List.cons_append, List.nil_append]
    repeat' (first
      | exact Fini.mk ⟨congrArg Value.bool (decide_eq_decide.2 (by unfold kindP; omega)), rfl⟩
      | exact Fini.mk ⟨by rw [decide_eq_false (by unfold kindP; omega)]; rfl, rfl⟩
      | refine And.intro (fun hc => ?_) (fun hc => ?_)
      | refine And.intro ?_ ?_
      | intro b
      | refine stp ?_
      | refine TQ.finC ?_
      | refine TQ.finC2 ?_
      | refine TQ.finC3 ?_
      | refine ⟨fun hc => ?_, fun hc => ?_⟩
      | refine Ei.f ?_
      | refine ⟨?_, ?_⟩
      | intro b
      | omega
      | (dsimp only; omega)
      | fail)
instance {L : List Assn} {k : Nat} {x : Int} [hx : Nn x k] : FnR Tryd.prog 47 [.int .u8 x] L (fun kk => Vc (True) (kk (.bool (decide (kindP k))) L)) := ⟨fun kk h => ⟨[], L, _, (by rw [hx.h]; exact rkind_spec k), .nil _, fun v L' hq => by rw [hq.1, hq.2]; exact h.r⟩⟩
theorem rbound_spec (k : Nat) :
    Sat Tryd.prog 15 [.int .u8 k] [] (fun u L' => u = .int .i64 (bndE k : Nat) ∧ L' = []) := by
  all_goals
    refine Sat.enter Tryd.func15 rfl Tryd.ntmps15 rfl (fun c R => ?_)
    try simp only [List.cons_append, List.nil_append]
    repeat' (first
      | exact Fini.mk ⟨by rw [bndE, if_pos hc]; rfl, rfl⟩
      | exact Fini.mk ⟨by rw [bndE, if_neg hc]; rfl, rfl⟩
      | refine And.intro (fun hc => ?_) (fun hc => ?_)
      | refine And.intro ?_ ?_
      | intro b
      | refine stp ?_
      | refine TQ.finC ?_
      | refine TQ.finC2 ?_
      | refine TQ.finC3 ?_
      | refine ⟨fun hc => ?_, fun hc => ?_⟩
      | refine Ei.f ?_
      | refine ⟨?_, ?_⟩
      | intro b
      | omega
      | (dsimp only; omega)
      | fail)
instance {L : List Assn} {k : Nat} {x : Int} [hx : Nn x k] : FnR Tryd.prog 15 [.int .u8 x] L (fun kk => Vc (True) (kk (.int .i64 (bndE k : Nat)) L)) := ⟨fun kk h => ⟨[], L, _, (by rw [hx.h]; exact rbound_spec k), .nil _, fun v L' hq => by rw [hq.1, hq.2]; exact h.r⟩⟩
instance {L : List Assn} {k n : Nat} {x y : Int} [hx : Nn x k] [hy : Nn y n] : FnR Tryd.prog 37 [.int .u8 x, .int .i64 y] L (fun kk => Vc (k < 256 ∧ n < 9223372036854775808) (kk (str (begE k n)) L)) := ⟨fun kk h => ⟨[], L, _, (by rw [hx.h, hy.h]; exact begun_spec k n h.l.1 h.l.2), .nil _, fun v L' hq => by rw [hq.1, hq.2]; exact h.r⟩⟩
theorem framed_spec (k : Nat) (s : List UInt8) (hk : k < 256) (hs : s.length < 4611686018427387904) :
    Sat Tryd.prog 41 [.int .u8 k, str s] [] (fun u L' => u = str (begE k s.length ++ s) ∧ L' = []) := by
  all_goals
    refine Sat.enter Tryd.func41 rfl Tryd.ntmps41 rfl (fun c R => ?_)
    try simp only [List.cons_append, List.nil_append]
    repeat' (first
      | (refine Vc.mk ⟨hk, by decide, by decide, by omega, by omega, trivial⟩ ?_)
      | exact Fini.mk ⟨rfl, rfl⟩
      | (simp only [List.length_cons, List.length_nil]; omega)
      | refine And.intro (fun hc => ?_) (fun hc => ?_)
      | refine And.intro ?_ ?_
      | intro b
      | refine stp ?_
      | refine TQ.finC ?_
      | refine TQ.finC2 ?_
      | refine TQ.finC3 ?_
      | refine ⟨fun hc => ?_, fun hc => ?_⟩
      | refine Ei.f ?_
      | refine ⟨?_, ?_⟩
      | intro b
      | omega
      | (dsimp only; omega)
      | fail)
instance {L : List Assn} {k : Nat} {x : Int} {s : List UInt8} [hx : Nn x k] : FnR Tryd.prog 41 [.int .u8 x, str s] L (fun kk => Vc (k < 256 ∧ s.length < 4611686018427387904) (kk (str (begE k s.length ++ s)) L)) := ⟨fun kk h => ⟨[], L, _, (by rw [hx.h]; exact framed_spec k s h.l.1 h.l.2), .nil _, fun v L' hq => by rw [hq.1, hq.2]; exact h.r⟩⟩

theorem begE_len (k n : Nat) : (begE k n).length = 5 := rfl
def FrameE (r : Nat × List UInt8) : List UInt8 × Nat := if kindP r.1 then (if bndE r.1 < r.2.length then ([], 4) else (begE r.1 r.2.length ++ r.2, 0)) else ([], 2)
theorem fr_2 {r : Nat × List UInt8} (h : ¬ kindP r.1) : FrameE r = ([], 2) := if_neg h
theorem fr_4 {r : Nat × List UInt8} (h : kindP r.1) (h2 : bndE r.1 < r.2.length) : FrameE r = ([], 4) := by rw [FrameE, if_pos h, if_pos h2]
theorem fr_0 {r : Nat × List UInt8} (h : kindP r.1) (h2 : ¬ bndE r.1 < r.2.length) : FrameE r = (begE r.1 r.2.length ++ r.2, 0) := by rw [FrameE, if_pos h, if_neg h2]
attribute [local irreducible] kindP bndE begE FrameE
theorem Frame_spec (r : Nat × List UInt8) (hk : r.1 < 256) (hs : r.2.length < 4611686018427387904) :
    Sat Tryd.prog 25 [.agg (recV r).toArray] [] (fun u L' => u = asResult [str (FrameE r).1, .int .i64 ((FrameE r).2 : Nat)] ∧ L' = []) := by
  all_goals
    refine Sat.enter Tryd.func25 rfl Tryd.ntmps25 rfl (fun c R => ?_)
    try simp only [List.cons_append, List.nil_append]
    repeat' (first
      | exact Fini.mk ⟨by rw [fr_2 ‹_›]; rfl, rfl⟩
      | exact Fini.mk ⟨by rw [fr_4 (Decidable.not_not.1 ‹¬¬kindP _›) ‹bndE _ < _›]; rfl, rfl⟩
      | exact Fini.mk ⟨by rw [fr_0 (Decidable.not_not.1 ‹¬¬kindP _›) ‹¬bndE _ < _›]; rfl, rfl⟩
      | (refine Vc.mk ⟨hk, by omega⟩ ?_)
      | (rw [begE_len]; omega)
      | refine T.pl 3 [5] (.d 3 (.d 4 (.p 0 (.b2 1 (.p 2 (.n 5 (.p 6 (.p 7 .fin)))) 5 (.d 1 (.p 2 (.p 6 (.p 7 .fin)))))))) ?_
      | refine T.pl 5 [5] (.d 0 (.d 1 (.d 2 (.d 3 (.p 4 (.p 6 (.b2 5 (.d 7 (.p 8 (.p 9 (.p 10 .fin)))) 7 (.n 5 (.p 8 (.p 9 (.p 10 .fin))))))))))) ?_
      | refine And.intro (fun hc => ?_) (fun hc => ?_)
      | refine And.intro ?_ ?_
      | intro b
      | refine stp ?_
      | refine TQ.finC ?_
      | refine TQ.finC2 ?_
      | refine TQ.finC3 ?_
      | refine ⟨fun hc => ?_, fun hc => ?_⟩
      | refine Ei.f ?_
      | refine ⟨?_, ?_⟩
      | intro b
      | omega
      | (dsimp only; omega)
      | fail)
theorem refFrame_spec (r : Nat × List UInt8) (hk : r.1 < 256) (hs : r.2.length < 4611686018427387904) :
    Sat Tryd.prog 26 [.agg (recV r).toArray] [] (fun u L' => u = asResult [str (FrameE r).1, .int .i64 ((FrameE r).2 : Nat)] ∧ L' = []) := by
  all_goals
    refine Sat.enter Tryd.func26 rfl Tryd.ntmps26 rfl (fun c R => ?_)
    try simp only [List.cons_append, List.nil_append]
    repeat' (first
      | exact Fini.mk ⟨by rw [fr_2 ‹_›]; rfl, rfl⟩
      | exact Fini.mk ⟨by rw [fr_4 (Decidable.not_not.1 ‹¬¬kindP _›) ‹bndE _ < _›]; rfl, rfl⟩
      | exact Fini.mk ⟨by rw [fr_0 (Decidable.not_not.1 ‹¬¬kindP _›) ‹¬bndE _ < _›]; rfl, rfl⟩
      | (refine Vc.mk ⟨hk, by omega⟩ ?_)
      | (rw [begE_len]; omega)
      | refine T.pl 3 [5] (.d 3 (.d 4 (.p 0 (.b2 1 (.p 2 (.n 5 (.p 6 .fin))) 5 (.d 1 (.p 2 (.p 6 .fin))))))) ?_
      | refine And.intro (fun hc => ?_) (fun hc => ?_)
      | refine And.intro ?_ ?_
      | intro b
      | refine stp ?_
      | refine TQ.finC ?_
      | refine TQ.finC2 ?_
      | refine TQ.finC3 ?_
      | refine ⟨fun hc => ?_, fun hc => ?_⟩
      | refine Ei.f ?_
      | refine ⟨?_, ?_⟩
      | intro b
      | omega
      | (dsimp only; omega)
      | fail)

end Go.Proofs.YthbpjjlinebooaaDoor


namespace Go.Proofs.YthbpjjlinebooaaDoor
open Go Pw
set_option maxRecDepth 20000
set_option maxHeartbeats 4000000
set_option maxHeartbeats 1000000

theorem flt_1 {b : List UInt8} (h : b.length = 1) : fltE b = if kindP (gt b 0).toNat then 0 else 253 := if_pos h
theorem flt_2 {b : List UInt8} (h : b.length = 2) : fltE b = if (gt b 1).toNat = 3 then 0 else 250 := by rw [fltE, if_neg (by omega), if_pos h]
theorem flt_5 {b : List UInt8} (h : b.length = 5) : fltE b = if bndE (gt b 0).toNat < lngE b then 251 else if lngE b = 0 ∧ (gt b 0).toNat ≠ 23 then 253 else 0 := by rw [fltE, if_neg (by omega), if_neg (by omega), if_pos h]
theorem flt_e {b : List UInt8} (h : b.length ≠ 1) (h2 : b.length ≠ 2) (h5 : b.length ≠ 5) : fltE b = 0 := by rw [fltE, if_neg h, if_neg h2, if_neg h5]
theorem lngE_eq (b : List UInt8) : (gt b 3).toNat * 2 ^ 8 ||| (gt b 4).toNat = lngE b := rfl
attribute [local irreducible] fltE lngE takeE kindP bndE
theorem fault_spec (b : List UInt8) :
    Sat Tryd.prog 33 [str b] [] (fun u L' => u = .int .i64 (fltE b : Nat) ∧ L' = []) := by
  all_goals
    refine Sat.enter Tryd.func33 rfl Tryd.ntmps33 rfl (fun c R => ?_)
    try simp only [List.cons_append, List.nil_append]
    repeat' (first
      | (have h := (gt b 3).toNat_lt; omega)
      | (refine T.atR 10 ?_; simp only [lngE_eq]; refine Hold.h ?_)
      | exact Fini.mk ⟨by rw [flt_e ‹_› ‹_› ‹_›]; rfl, rfl⟩
      | exact Fini.mk ⟨by rw [flt_1 ‹_›, if_neg ‹_›]; rfl, rfl⟩
      | exact Fini.mk ⟨by rw [flt_1 ‹_›, if_pos (Decidable.not_not.1 ‹¬¬kindP _›)]; rfl, rfl⟩
      | exact Fini.mk ⟨by rw [flt_2 ‹_›, if_neg ‹_›]; rfl, rfl⟩
      | exact Fini.mk ⟨by rw [flt_2 ‹_›, if_pos (Decidable.not_not.1 ‹¬_ ≠ 3›)]; rfl, rfl⟩
      | exact Fini.mk ⟨by rw [flt_5 ‹_›, if_pos ‹_›]; rfl, rfl⟩
      | exact Fini.mk ⟨by rw [flt_5 ‹_›, if_neg ‹¬bndE _ < _›, if_pos ⟨‹lngE _ = 0›, ‹_ ≠ 23›⟩]; rfl, rfl⟩
      | exact Fini.mk ⟨by rw [flt_5 ‹_›, if_neg ‹¬bndE _ < _›, if_neg (fun h => ‹¬lngE _ = 0› h.1)]; rfl, rfl⟩
      | exact Fini.mk ⟨by rw [flt_5 ‹_›, if_neg ‹¬bndE _ < _›, if_neg (fun h => ‹¬_ ≠ 23› h.2)]; rfl, rfl⟩
      | (exact Nat.lt_of_lt_of_le (UInt8.toNat_lt _) (by decide))
      | refine T.pl 9 [] (.p 0 (.p 1 (.p 2 (.p 3 (.p 4 (.p 5 (.p 6 (.p 7 (.p 8 .fin))))))))) ?_
      | refine And.intro (fun hc => ?_) (fun hc => ?_)
      | refine And.intro ?_ ?_
      | intro b
      | refine stp ?_
      | refine TQ.finC ?_
      | refine TQ.finC2 ?_
      | refine TQ.finC3 ?_
      | refine ⟨fun hc => ?_, fun hc => ?_⟩
      | refine Ei.f ?_
      | refine ⟨?_, ?_⟩
      | intro b
      | omega
      | (dsimp only; omega)
      |  fail)
    all_goals try refine Hold.mk ?_
    repeat' (first
      | exact Fini.mk ⟨by rw [flt_e ‹_› ‹_› ‹_›]; rfl, rfl⟩
      | exact Fini.mk ⟨by rw [flt_1 ‹_›, if_neg ‹_›]; rfl, rfl⟩
      | exact Fini.mk ⟨by rw [flt_1 ‹_›, if_pos (Decidable.not_not.1 ‹¬¬kindP _›)]; rfl, rfl⟩
      | exact Fini.mk ⟨by rw [flt_2 ‹_›, if_neg ‹_›]; rfl, rfl⟩
      | exact Fini.mk ⟨by rw [flt_2 ‹_›, if_pos (Decidable.not_not.1 ‹¬_ ≠ 3›)]; rfl, rfl⟩
      | exact Fini.mk ⟨by rw [flt_5 ‹_›, if_pos ‹_›]; rfl, rfl⟩
      | exact Fini.mk ⟨by rw [flt_5 ‹_›, if_neg ‹¬bndE _ < _›, if_pos ⟨‹lngE _ = 0›, ‹_ ≠ 23›⟩]; rfl, rfl⟩
      | exact Fini.mk ⟨by rw [flt_5 ‹_›, if_neg ‹¬bndE _ < _›, if_neg (fun h => ‹¬lngE _ = 0› h.1)]; rfl, rfl⟩
      | exact Fini.mk ⟨by rw [flt_5 ‹_›, if_neg ‹¬bndE _ < _›, if_neg (fun h => ‹¬_ ≠ 23› h.2)]; rfl, rfl⟩
      | (exact Nat.lt_of_lt_of_le (UInt8.toNat_lt _) (by decide))
      | refine T.pl 9 [] (.p 0 (.p 1 (.p 2 (.p 3 (.p 4 (.p 5 (.p 6 (.p 7 (.p 8 .fin))))))))) ?_
      | refine And.intro (fun hc => ?_) (fun hc => ?_)
      | refine And.intro ?_ ?_
      | intro b
      | refine stp ?_
      | refine TQ.finC ?_
      | refine TQ.finC2 ?_
      | refine TQ.finC3 ?_
      | refine ⟨fun hc => ?_, fun hc => ?_⟩
      | refine Ei.f ?_
      | refine ⟨?_, ?_⟩
      | intro b
      | omega
      | (dsimp only; omega)
      | fail)
instance {L : List Assn} {b : List UInt8} : FnR Tryd.prog 33 [str b] L (fun kk => Vc (True) (kk (.int .i64 (fltE b : Nat)) L)) := ⟨fun kk h => ⟨[], L, _, fault_spec b, .nil _, fun v L' hq => by rw [hq.1, hq.2]; exact h.r⟩⟩

end Go.Proofs.YthbpjjlinebooaaDoor

