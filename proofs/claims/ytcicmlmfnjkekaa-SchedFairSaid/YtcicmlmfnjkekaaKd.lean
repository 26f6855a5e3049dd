/- Lemmas for the proofs of this seat: no statement of the seat is claimed here. -/
import Derived.Test.YtcicmlmfnjkekaaProg
import Derived.Test.YtcicmlmfnjkekaaKc
set_option linter.all false

namespace Go.Proofs.Ytcicmlmfnjkekaa
open Go Pw
set_option maxRecDepth 20000
set_option maxHeartbeats 4000000
set_option synthInstance.maxHeartbeats 400000
set_option synthInstance.maxSize 4000
instance : Und Try.prog 3 (Go.TypeDesc.int (Go.IntKind.i64)) := ⟨Try.underlying3⟩
instance : Sz Try.prog 3 0 := ⟨by kernel_rfl⟩
instance : Pl Try.prog 3 := ⟨by kernel_rfl⟩
instance : Zr Try.prog 3 (.int .i64 0) := ⟨by kernel_rfl⟩
instance : By Try.prog 3 8 := ⟨by kernel_rfl⟩
instance : Und Try.prog 4 (Go.TypeDesc.bool) := ⟨Try.underlying4⟩
instance : Sz Try.prog 4 0 := ⟨by kernel_rfl⟩
instance : Pl Try.prog 4 := ⟨by kernel_rfl⟩
instance : Zr Try.prog 4 (.bool false) := ⟨by kernel_rfl⟩
instance : By Try.prog 4 1 := ⟨by kernel_rfl⟩
instance : Und Try.prog 5 (Go.TypeDesc.int (Go.IntKind.u8)) := ⟨Try.underlying5⟩
instance : Sz Try.prog 5 0 := ⟨by kernel_rfl⟩
instance : Pl Try.prog 5 := ⟨by kernel_rfl⟩
instance : Zr Try.prog 5 (.int .u8 0) := ⟨by kernel_rfl⟩
instance : By Try.prog 5 1 := ⟨by kernel_rfl⟩
instance : Und Try.prog 22 (Go.TypeDesc.slice 35) := ⟨Try.underlying22⟩
instance : Sz Try.prog 22 0 := ⟨by kernel_rfl⟩
instance : Pl Try.prog 22 := ⟨by kernel_rfl⟩
instance : Zr Try.prog 22 (.slice none 0 0) := ⟨by kernel_rfl⟩
instance : By Try.prog 22 24 := ⟨by kernel_rfl⟩
instance : Und Try.prog 24 (Go.TypeDesc.pointer 63) := ⟨Try.underlying24⟩
instance : Sz Try.prog 24 0 := ⟨by kernel_rfl⟩
instance : Pl Try.prog 24 := ⟨by kernel_rfl⟩
instance : Zr Try.prog 24 (.pointer none) := ⟨by kernel_rfl⟩
instance : By Try.prog 24 8 := ⟨by kernel_rfl⟩
instance : Und Try.prog 25 (Go.TypeDesc.int (Go.IntKind.i64)) := ⟨Try.underlying25⟩
instance : Sz Try.prog 25 0 := ⟨by kernel_rfl⟩
instance : Pl Try.prog 25 := ⟨by kernel_rfl⟩
instance : Zr Try.prog 25 (.int .i64 0) := ⟨by kernel_rfl⟩
instance : By Try.prog 25 8 := ⟨by kernel_rfl⟩
instance : Und Try.prog 29 (Go.TypeDesc.int (Go.IntKind.u32)) := ⟨Try.underlying29⟩
instance : Sz Try.prog 29 0 := ⟨by kernel_rfl⟩
instance : Pl Try.prog 29 := ⟨by kernel_rfl⟩
instance : Zr Try.prog 29 (.int .u32 0) := ⟨by kernel_rfl⟩
instance : By Try.prog 29 4 := ⟨by kernel_rfl⟩
instance : Und Try.prog 30 (Go.TypeDesc.slice 3) := ⟨Try.underlying30⟩
instance : Sz Try.prog 30 0 := ⟨by kernel_rfl⟩
instance : Pl Try.prog 30 := ⟨by kernel_rfl⟩
instance : Zr Try.prog 30 (.slice none 0 0) := ⟨by kernel_rfl⟩
instance : By Try.prog 30 24 := ⟨by kernel_rfl⟩
instance : Und Try.prog 33 (Go.TypeDesc.int (Go.IntKind.u64)) := ⟨Try.underlying33⟩
instance : Sz Try.prog 33 0 := ⟨by kernel_rfl⟩
instance : Pl Try.prog 33 := ⟨by kernel_rfl⟩
instance : Zr Try.prog 33 (.int .u64 0) := ⟨by kernel_rfl⟩
instance : By Try.prog 33 8 := ⟨by kernel_rfl⟩
instance : Und Try.prog 35 (Go.TypeDesc.struct #[{ name := "Do", type := 3, offset := 0, embedded := false, tag := "", pkgPath := "", byteOffset := 0 }, { name := "ID", type := 29, offset := 1, embedded := false, tag := "", pkgPath := "", byteOffset := 8 }, { name := "N", type := 33, offset := 2, embedded := false, tag := "", pkgPath := "", byteOffset := 16 }, { name := "M", type := 3, offset := 3, embedded := false, tag := "", pkgPath := "", byteOffset := 24 }]) := ⟨Try.underlying35⟩
instance : Sz Try.prog 35 3 := ⟨by kernel_rfl⟩
instance : Ag Try.prog 35 := ⟨by kernel_rfl⟩
instance : Zr Try.prog 35 (.agg #[.int .i64 0, .int .u32 0, .int .u64 0, .int .i64 0]) := ⟨by kernel_rfl⟩
instance : By Try.prog 35 32 := ⟨by kernel_rfl⟩
instance : Pc Try.prog 35 [(0, 1), (1, 1), (2, 1), (3, 1)] := ⟨by kernel_rfl⟩
instance : Und Try.prog 43 (Go.TypeDesc.array 6 5) := ⟨Try.underlying43⟩
instance : Sz Try.prog 43 5 := ⟨by kernel_rfl⟩
instance : Ag Try.prog 43 := ⟨by kernel_rfl⟩
instance : Zr Try.prog 43 (.agg #[.int .u8 0, .int .u8 0, .int .u8 0, .int .u8 0, .int .u8 0, .int .u8 0]) := ⟨by kernel_rfl⟩
instance : By Try.prog 43 6 := ⟨by kernel_rfl⟩
instance : Und Try.prog 44 (Go.TypeDesc.slice 29) := ⟨Try.underlying44⟩
instance : Sz Try.prog 44 0 := ⟨by kernel_rfl⟩
instance : Pl Try.prog 44 := ⟨by kernel_rfl⟩
instance : Zr Try.prog 44 (.slice none 0 0) := ⟨by kernel_rfl⟩
instance : By Try.prog 44 24 := ⟨by kernel_rfl⟩
instance : Und Try.prog 49 (Go.TypeDesc.slice 77) := ⟨Try.underlying49⟩
instance : Sz Try.prog 49 0 := ⟨by kernel_rfl⟩
instance : Pl Try.prog 49 := ⟨by kernel_rfl⟩
instance : Zr Try.prog 49 (.slice none 0 0) := ⟨by kernel_rfl⟩
instance : By Try.prog 49 24 := ⟨by kernel_rfl⟩
instance : Und Try.prog 51 (Go.TypeDesc.struct #[{ name := "Patience", type := 3, offset := 0, embedded := false, tag := "", pkgPath := "", byteOffset := 0 }, { name := "L", type := 49, offset := 1, embedded := false, tag := "", pkgPath := "", byteOffset := 8 }, { name := "Row", type := 44, offset := 2, embedded := false, tag := "", pkgPath := "", byteOffset := 32 }, { name := "Now", type := 33, offset := 3, embedded := false, tag := "", pkgPath := "", byteOffset := 56 }, { name := "Waits", type := 3, offset := 4, embedded := false, tag := "", pkgPath := "", byteOffset := 64 }]) := ⟨Try.underlying51⟩
instance : Sz Try.prog 51 4 := ⟨by kernel_rfl⟩
instance : Ag Try.prog 51 := ⟨by kernel_rfl⟩
instance : Zr Try.prog 51 (.agg #[.int .i64 0, .slice none 0 0, .slice none 0 0, .int .u64 0, .int .i64 0]) := ⟨by kernel_rfl⟩
instance : By Try.prog 51 72 := ⟨by kernel_rfl⟩
instance : Pc Try.prog 51 [(0, 1), (1, 1), (2, 1), (3, 1), (4, 1)] := ⟨by kernel_rfl⟩
instance : Und Try.prog 59 (Go.TypeDesc.map 29 61) := ⟨Try.underlying59⟩
instance : Sz Try.prog 59 0 := ⟨by kernel_rfl⟩
instance : Pl Try.prog 59 := ⟨by kernel_rfl⟩
instance : Zr Try.prog 59 (.map none) := ⟨by kernel_rfl⟩
instance : By Try.prog 59 8 := ⟨by kernel_rfl⟩
instance : Und Try.prog 60 (Go.TypeDesc.slice 61) := ⟨Try.underlying60⟩
instance : Sz Try.prog 60 0 := ⟨by kernel_rfl⟩
instance : Pl Try.prog 60 := ⟨by kernel_rfl⟩
instance : Zr Try.prog 60 (.slice none 0 0) := ⟨by kernel_rfl⟩
instance : By Try.prog 60 24 := ⟨by kernel_rfl⟩
instance : Und Try.prog 61 (Go.TypeDesc.pointer 65) := ⟨Try.underlying61⟩
instance : Sz Try.prog 61 0 := ⟨by kernel_rfl⟩
instance : Pl Try.prog 61 := ⟨by kernel_rfl⟩
instance : Zr Try.prog 61 (.pointer none) := ⟨by kernel_rfl⟩
instance : By Try.prog 61 8 := ⟨by kernel_rfl⟩
instance : Und Try.prog 63 (Go.TypeDesc.struct #[{ name := "patience", type := 3, offset := 0, embedded := false, tag := "", pkgPath := "pharos/sched", byteOffset := 0 }, { name := "tasks", type := 59, offset := 1, embedded := false, tag := "", pkgPath := "pharos/sched", byteOffset := 8 }, { name := "row", type := 60, offset := 2, embedded := false, tag := "", pkgPath := "pharos/sched", byteOffset := 16 }, { name := "waits", type := 60, offset := 3, embedded := false, tag := "", pkgPath := "pharos/sched", byteOffset := 40 }, { name := "runs", type := 61, offset := 4, embedded := false, tag := "", pkgPath := "pharos/sched", byteOffset := 64 }, { name := "now", type := 33, offset := 5, embedded := false, tag := "", pkgPath := "pharos/sched", byteOffset := 72 }]) := ⟨Try.underlying63⟩
instance : Sz Try.prog 63 5 := ⟨by kernel_rfl⟩
instance : Ag Try.prog 63 := ⟨by kernel_rfl⟩
instance : Zr Try.prog 63 (.agg #[.int .i64 0, .map none, .slice none 0 0, .slice none 0 0, .pointer none, .int .u64 0]) := ⟨by kernel_rfl⟩
instance : By Try.prog 63 80 := ⟨by kernel_rfl⟩
instance : Pc Try.prog 63 [(0, 1), (1, 1), (2, 1), (3, 1), (4, 1), (5, 1)] := ⟨by kernel_rfl⟩
instance : Und Try.prog 65 (Go.TypeDesc.struct #[{ name := "id", type := 29, offset := 0, embedded := false, tag := "", pkgPath := "pharos/sched", byteOffset := 0 }, { name := "state", type := 5, offset := 1, embedded := false, tag := "", pkgPath := "pharos/sched", byteOffset := 4 }, { name := "passed", type := 3, offset := 2, embedded := false, tag := "", pkgPath := "pharos/sched", byteOffset := 8 }, { name := "queue", type := 29, offset := 3, embedded := false, tag := "", pkgPath := "pharos/sched", byteOffset := 16 }, { name := "until", type := 33, offset := 4, embedded := false, tag := "", pkgPath := "pharos/sched", byteOffset := 24 }, { name := "timed", type := 4, offset := 5, embedded := false, tag := "", pkgPath := "pharos/sched", byteOffset := 32 }]) := ⟨Try.underlying65⟩
instance : Sz Try.prog 65 5 := ⟨by kernel_rfl⟩
instance : Ag Try.prog 65 := ⟨by kernel_rfl⟩
instance : Zr Try.prog 65 (.agg #[.int .u32 0, .int .u8 0, .int .i64 0, .int .u32 0, .int .u64 0, .bool false]) := ⟨by kernel_rfl⟩
instance : By Try.prog 65 40 := ⟨by kernel_rfl⟩
instance : Pc Try.prog 65 [(0, 1), (1, 1), (2, 1), (3, 1), (4, 1), (5, 1)] := ⟨by kernel_rfl⟩
instance : Und Try.prog 68 (Go.TypeDesc.func #[61] #[4] false) := ⟨Try.underlying68⟩
instance : Sz Try.prog 68 0 := ⟨by kernel_rfl⟩
instance : Pl Try.prog 68 := ⟨by kernel_rfl⟩
instance : Zr Try.prog 68 (.nilFunc) := ⟨by kernel_rfl⟩
instance : By Try.prog 68 8 := ⟨by kernel_rfl⟩
instance : Und Try.prog 77 (Go.TypeDesc.struct #[{ name := "ID", type := 29, offset := 0, embedded := false, tag := "", pkgPath := "", byteOffset := 0 }, { name := "State", type := 5, offset := 1, embedded := false, tag := "", pkgPath := "", byteOffset := 4 }, { name := "Passed", type := 3, offset := 2, embedded := false, tag := "", pkgPath := "", byteOffset := 8 }, { name := "Queue", type := 29, offset := 3, embedded := false, tag := "", pkgPath := "", byteOffset := 16 }, { name := "Until", type := 33, offset := 4, embedded := false, tag := "", pkgPath := "", byteOffset := 24 }, { name := "Since", type := 3, offset := 5, embedded := false, tag := "", pkgPath := "", byteOffset := 32 }, { name := "Timed", type := 4, offset := 6, embedded := false, tag := "", pkgPath := "", byteOffset := 40 }]) := ⟨Try.underlying77⟩
instance : Sz Try.prog 77 6 := ⟨by kernel_rfl⟩
instance : Ag Try.prog 77 := ⟨by kernel_rfl⟩
instance : Zr Try.prog 77 (.agg #[.int .u32 0, .int .u8 0, .int .i64 0, .int .u32 0, .int .u64 0, .int .i64 0, .bool false]) := ⟨by kernel_rfl⟩
instance : By Try.prog 77 48 := ⟨by kernel_rfl⟩
instance : Pc Try.prog 77 [(0, 1), (1, 1), (2, 1), (3, 1), (4, 1), (5, 1), (6, 1)] := ⟨by kernel_rfl⟩
instance : Und Try.prog 86 (Go.TypeDesc.int (Go.IntKind.u64)) := ⟨Try.underlying86⟩
instance : Sz Try.prog 86 0 := ⟨by kernel_rfl⟩
instance : Pl Try.prog 86 := ⟨by kernel_rfl⟩
instance : Zr Try.prog 86 (.int .u64 0) := ⟨by kernel_rfl⟩
instance : By Try.prog 86 8 := ⟨by kernel_rfl⟩
instance : Cal Try.prog 7 := ⟨Try.call7⟩
instance : Cal Try.prog 8 := ⟨Try.call8⟩
instance : Cal Try.prog 9 := ⟨Try.call9⟩
instance : Cal Try.prog 10 := ⟨Try.call10⟩
instance : Cal Try.prog 11 := ⟨Try.call11⟩
instance : Cal Try.prog 12 := ⟨Try.call12⟩
instance : Cal Try.prog 13 := ⟨Try.call13⟩
instance : Cal Try.prog 14 := ⟨Try.call14⟩
instance : Cal Try.prog 15 := ⟨Try.call15⟩
instance : Cal Try.prog 16 := ⟨Try.call16⟩
instance : Cal Try.prog 17 := ⟨Try.call17⟩
instance : Cal Try.prog 18 := ⟨Try.call18⟩
instance : Cal Try.prog 19 := ⟨Try.call19⟩
instance : Cal Try.prog 20 := ⟨Try.call20⟩
instance : Cal Try.prog 21 := ⟨Try.call21⟩
instance : Cal Try.prog 22 := ⟨Try.call22⟩
instance : Cal Try.prog 23 := ⟨Try.call23⟩
instance : Cal Try.prog 24 := ⟨Try.call24⟩
instance : Cal Try.prog 25 := ⟨Try.call25⟩
instance : Cal Try.prog 26 := ⟨Try.call26⟩
instance : Cal Try.prog 27 := ⟨Try.call27⟩
instance : Cal Try.prog 28 := ⟨Try.call28⟩
instance : Cal Try.prog 29 := ⟨Try.call29⟩
instance : Cal Try.prog 30 := ⟨Try.call30⟩
instance : Cal Try.prog 31 := ⟨Try.call31⟩
instance : Cal Try.prog 32 := ⟨Try.call32⟩
instance : Cal Try.prog 33 := ⟨Try.call33⟩
instance : Cal Try.prog 34 := ⟨Try.call34⟩
instance : Cal Try.prog 35 := ⟨Try.call35⟩
instance : Cal Try.prog 36 := ⟨Try.call36⟩
instance : Cal Try.prog 37 := ⟨Try.call37⟩
instance : Cal Try.prog 38 := ⟨Try.call38⟩
instance : Cal Try.prog 39 := ⟨Try.call39⟩
instance : Cal Try.prog 40 := ⟨Try.call40⟩
instance : Cal Try.prog 41 := ⟨Try.call41⟩
instance : Cal Try.prog 42 := ⟨Try.call42⟩
instance : Cal Try.prog 43 := ⟨Try.call43⟩
instance : Cal Try.prog 44 := ⟨Try.call44⟩
instance : Cal Try.prog 45 := ⟨Try.call45⟩
instance : Cal Try.prog 46 := ⟨Try.call46⟩
instance : Cal Try.prog 47 := ⟨Try.call47⟩
instance : Cal Try.prog 48 := ⟨Try.call48⟩
instance : Cal Try.prog 49 := ⟨Try.call49⟩
instance : Cal Try.prog 50 := ⟨Try.call50⟩
instance : Cal Try.prog 51 := ⟨Try.call51⟩
instance : Cal Try.prog 52 := ⟨Try.call52⟩
instance : Cal Try.prog 53 := ⟨Try.call53⟩
instance : Cal Try.prog 54 := ⟨Try.call54⟩
instance : Cal Try.prog 55 := ⟨Try.call55⟩
instance : Cal Try.prog 56 := ⟨Try.call56⟩
instance : Cal Try.prog 57 := ⟨Try.call57⟩
instance : Mixed Try.prog := ⟨by kernel_rfl⟩
theorem mixed : Try.prog.follows .mixedOrders = true := by kernel_rfl

end Go.Proofs.Ytcicmlmfnjkekaa


namespace Go.Proofs.Ytcicmlmfnjkekaa
open Go Pw
set_option maxRecDepth 20000
set_option maxHeartbeats 4000000
set_option synthInstance.maxHeartbeats 400000
set_option synthInstance.maxSize 4000
set_option maxHeartbeats 1000000
theorem TQ.atL {r : Rd} {c : Ctx} {L : List Assn} {Q : Exit → Env → Rd → World → Prop} {E : Env} {S : Type} {n : Nat} {sl : S → List (Nat × Value)} {H : S → List Assn} {I : S → Prop} {μ : S → Nat} {s : S} (h : TQ r c L (loopQ r c n sl H I μ s Q) .normal E) : TQ r c L (loopQ r c n sl H I μ s Q) .normal E := h

structure Hold (p : Prop) : Prop where mk ::
  h : p
structure Tk where
  (id st ps qu un : Nat) (ti : Bool)
instance : Inhabited Tk := ⟨⟨0, 0, 0, 0, 0, false⟩⟩
abbrev tkV (t : Tk) : List Value := [.int .u32 t.id, .int .u8 t.st, .int .i64 t.ps, .int .u32 t.qu, .int .u64 t.un, .bool t.ti]
instance {t : Tk} {x : Int} {n : Nat} [h : Nn x n] : SetF tkV t 1 (.int .u8 x) { t with st := n } := ⟨by rw [h.h]; exact ⟨rfl, show 1 < 6 by decide⟩⟩
instance {t : Tk} {x : Int} {n : Nat} [h : Nn x n] : SetF tkV t 2 (.int .i64 x) { t with ps := n } := ⟨by rw [h.h]; exact ⟨rfl, show 2 < 6 by decide⟩⟩
instance {t : Tk} {x : Int} {n : Nat} [h : Nn x n] : SetF tkV t 3 (.int .u32 x) { t with qu := n } := ⟨by rw [h.h]; exact ⟨rfl, show 3 < 6 by decide⟩⟩
instance {t : Tk} {x : Int} {n : Nat} [h : Nn x n] : SetF tkV t 4 (.int .u64 x) { t with un := n } := ⟨by rw [h.h]; exact ⟨rfl, show 4 < 6 by decide⟩⟩
instance {t : Tk} {b : Bool} : SetF tkV t 5 (.bool b) { t with ti := b } := ⟨rfl, show 5 < 6 by decide⟩
/-- Those that are ready again. -/
def rdyT (ti : Bool) (tk : Nat → Tk) (q : Nat) : Nat → Tk := upd tk q { tk q with st := 1, ps := 0, ti := ti }
def rdyL (ti : Bool) (tk : Nat → Tk) (l : List Nat) : Nat → Tk := l.foldl (rdyT ti) tk
theorem rdy3 (ti : Bool) (tk : Nat → Tk) (q : Nat) (a b : Tk) (ha : a = { tk q with st := 1 }) (hb : b = { upd tk q a q with ps := 0 }) : upd (upd (upd tk q a) q b) q { upd (upd tk q a) q b q with ti := ti } = rdyT ti tk q := by
  subst ha; subst hb
  funext r
  unfold rdyT upd
  by_cases h : r = q <;> simp [h]
theorem rdyL_next {ti : Bool} {tk : Nat → Tk} {l : List Nat} {j : Nat} (h : j < l.length) : rdyL ti tk (l.take (j + 1)) = rdyT ti (rdyL ti tk (l.take j)) (gt l j) := by
  have e : l.take (j + 1) = l.take j ++ [gt l j] := by rw [List.take_succ, gt, List.getD_eq_getElem?_getD]; simp [h]
  rw [e, rdyL, List.foldl_append]; rfl
theorem take_gt {α : Type} [Inhabited α] {s : List α} {k : Nat} (h : k < s.length) : s.take (k + 1) = s.take k ++ [gt s k] := by
  rw [List.take_succ, gt, List.getD_eq_getElem?_getD]; simp [h]
theorem gt_mem {α : Type} [Inhabited α] {s : List α} {k : Nat} (h : k < s.length) : gt s k ∈ s := by
  rw [gt, List.getD_eq_getElem?_getD, List.getElem?_eq_getElem h]; exact List.getElem_mem h
instance {l : List Nat} {j : Nat} : ElV (l.map pv) j (pv (gt l j)) (j < l.length) := inferInstance
theorem ready_spec (p k lk : Nat) (a la : Option Addr) (v0 v1 v3 v4 v5 : Value) (ti : Bool) (rw_ l ps : List Nat) (tk : Nat → Tk) (hlp : ∀ q ∈ l, q ∈ ps) (hl : rw_.length + l.length < 1099511627776) :
    Sat Try.prog 26 [.pointer (some ⟨p, 0, none⟩), .bool ti, .slice la l.length lk] [Pw.row 63 p [v0, v1, .slice a rw_.length k, v3, v4, v5], sl 61 1 (.slice a (rw_).length k) (rw_).length ((rw_).map pv), objF tkV 65 ps (tk), sl 61 1 (.slice la l.length lk) l.length (l.map pv)] (fun u L' => ∃ a k, u = asResult [] ∧ L' = [Pw.row 63 p [v0, v1, .slice a (rw_ ++ l).length k, v3, v4, v5], sl 61 1 (.slice a (rw_ ++ l).length k) (rw_ ++ l).length ((rw_ ++ l).map pv), objF tkV 65 ps (rdyL ti tk l)]) := by
  all_goals
    refine Sat.enter Try.func26 rfl Try.ntmps26 rfl (fun c R => ?_)
    try simp only [List.cons_append, List.nil_append]
    repeat' (first
      | (refine T.atB 0 ?_; have e0 : rw_ = rw_ ++ l.take 0 := (List.append_nil _).symm; refine T.ent (Ent.imp (show Imp _ (Pw.row 63 p [v0, v1, .slice a (rw_ ++ l.take 0).length k, v3, v4, v5] :: sl 61 1 (.slice a (rw_ ++ l.take 0).length k) (rw_ ++ l.take 0).length ((rw_ ++ l.take 0).map pv) :: objF tkV 65 ps (rdyL ti tk (l.take 0)) :: sl 61 1 (.slice la l.length lk) l.length (l.map pv) :: _) from (by rw [← e0]; exact Imp.refl _))) ?_; refine T.lpa 0 [(0, _), (1, _), (8, _), (9, _)] ((0, (a, k)) : Nat × (Option Addr × Nat)) (fun z => [(10, .int .i64 (z.1 : Nat))]) (fun z => [Pw.row 63 p [v0, v1, .slice z.2.1 (rw_ ++ l.take z.1).length z.2.2, v3, v4, v5], sl 61 1 (.slice z.2.1 (rw_ ++ l.take z.1).length z.2.2) (rw_ ++ l.take z.1).length ((rw_ ++ l.take z.1).map pv), objF tkV 65 ps (rdyL ti tk (l.take z.1))]) (fun z => z.1 ≤ l.length) (fun z => l.length - z.1) (Nat.zero_le _) ?_; rintro ⟨j, ⟨a1, k1⟩⟩ g hI; dsimp only at hI ⊢; simp only [List.cons_append, List.nil_append, appR])
      | (refine TQ.atL ?_; rename_i a4; have hj : j < l.length := (by omega); have e1 : (rw_ ++ l.take j).length + 1 = (rw_ ++ l.take (j + 1)).length := (by rw [take_gt hj]; simp; omega); have e2 : (rw_ ++ l.take j).map pv ++ [pv (gt l j)] = (rw_ ++ l.take (j + 1)).map pv := (by rw [take_gt hj]; simp); rw [e1, e2, rdy3 ti (rdyL ti tk (l.take j)) (gt l j) _ _ rfl rfl, ← rdyL_next hj]; refine TQ.rd ((j + 1, (a4, b)) : Nat × (Option Addr × Nat)) rfl ⟨rfl, rfl, rfl, rfl, rfl, trivial⟩ (by dsimp only; omega) (by dsimp only; omega) (Ent.imp (by repeat first | exact Imp.refl _ | (apply Imp.pull; focus ((repeat first | exact Del.head _ _ | apply Del.tail); done)) | apply Imp.drop)))
      | (have ej : j = l.length := (by omega); subst ej; rw [List.take_length]; exact Fini.of ⟨_, _, rfl, rfl⟩ (by repeat first | exact Imp.refl _ | (apply Imp.pull; focus ((repeat first | exact Del.head _ _ | apply Del.tail); done)) | apply Imp.drop))
      | (rw [List.length_append, List.length_take]; omega)
      | (rw [List.length_append]; omega)
      | exact hlp _ (gt_mem (by omega))
      | exact List.length_map _
      | exact (rfl : (61 : Nat) = 61)
      | exact trivial
      | (rw [List.length_map, Nat.mul_one])
      | refine And.intro (fun hc => ?_) (fun hc => ?_)
      | refine And.intro ?_ ?_
      | intro b
      | refine stp ?_
      | refine TQ.finC ?_
      | refine TQ.finC2 ?_
      | refine TQ.finC3 ?_
      | refine ⟨fun hc => ?_, fun hc => ?_⟩
      | refine Ei.f ?_
      | refine ⟨?_, ?_⟩
      | intro b
      | omega
      | (dsimp only; omega)
      | fail)

end Go.Proofs.Ytcicmlmfnjkekaa


namespace Go.Proofs.Ytcicmlmfnjkekaa
open Go Pw
set_option maxRecDepth 20000
set_option maxHeartbeats 4000000
set_option synthInstance.maxHeartbeats 400000
set_option synthInstance.maxSize 4000
set_option maxHeartbeats 1000000

abbrev optP : Option Nat → Option Addr
  | none => none
  | some q => some ⟨q, 0, none⟩
structure Sc where
  (pat : Nat) (tm : List (Nat × Nat)) (row waits : List Nat) (runs : Option Nat) (now : Nat) (ps : List Nat) (tk : Nat → Tk)
structure Hd where
  (m : Nat) (a : Option Addr) (k : Nat) (b : Option Addr) (l : Nat)
abbrev scL (p : Nat) (S : Sc) (x : Hd) : List Assn := [Pw.row 63 p [.int .i64 S.pat, .map (some x.m), .slice x.a S.row.length x.k, .slice x.b S.waits.length x.l, .pointer (optP S.runs), .int .u64 S.now], mapP x.m (.u32, S.tm),
  sl 61 1 (.slice x.a S.row.length x.k) S.row.length (S.row.map pv), sl 61 1 (.slice x.b S.waits.length x.l) S.waits.length (S.waits.map pv), objF tkV 65 S.ps S.tk]
def scA (p : Nat) (S : Sc) : Assn := exA (fun _ : Hd => True) (scL p S)
theorem Imp.sc {p : Nat} {S : Sc} {L R : List Assn} (x : Hd) (h : Imp L (scL p S x ++ R)) : Imp L (scA p S :: R) := Imp.shutA (p := fun _ => True) x trivial h
/-- What always holds of a state. -/
structure Sc.ok (S : Sc) : Prop where
  pat : 1 ≤ S.pat ∧ S.pat ≤ 256
  map : ∀ n q, atP S.tm n = some q → q ∈ S.ps ∧ (S.tk q).id = n
  row : ∀ q ∈ S.row, q ∈ S.ps
  waits : ∀ q ∈ S.waits, q ∈ S.ps
  runs : ∀ q, S.runs = some q → q ∈ S.ps
  rl : S.row.length + S.waits.length < 1000000000
  tl : S.tm.length ≤ 256
  tv : ∀ q, (S.tk q).ps < 4611686018427387904
def Sc.state (S : Sc) (n : Nat) : Nat := match atP S.tm n with | none => 0 | some q => (S.tk q).st
def Sc.why (S : Sc) (n : Nat) : Nat := match atP S.tm n with | none => 5 | some q => if (S.tk q).ti then 50 else 0
class PvL (xs : List Value) (l : outParam (List Nat)) : Prop where h : xs = l.map pv
instance (priority := 1100) {l : List Nat} : PvL (l.map pv) l := ⟨rfl⟩
instance : PvL [] [] := ⟨rfl⟩
instance {b : Nat} {xs : List Value} {l : List Nat} [h : PvL xs l] : PvL (.pointer (some ⟨b, 0, none⟩) :: xs) (b :: l) := ⟨by rw [h.h]; rfl⟩
instance {L R1 R2 R3 R4 : List Assn} {p k lk rn n : Nat} {a la : Option Addr} {v0 v1 v3 v4 v5 : Value} {ti : Bool} {rw_ l ps : List Nat} {xs : List Value} {tk : Nat → Tk} [h1 : RowDel L p 63 [v0, v1, .slice a rn k, v3, v4, v5] R1] [h2 : SlAt R1 (.slice a rn k) 61 1 rn (rw_.map pv) R2] [h4 : ObjAt R2 Tk tkV 65 ps tk R3] [h3 : SlAt R3 (.slice la n lk) 61 1 n xs R4] [hx : PvL xs l] : FnR Try.prog 26 [.pointer (some ⟨p, 0, none⟩), .bool ti, .slice la n lk] L (fun q => Vc (rn = rw_.length ∧ n = l.length ∧ (∀ q ∈ l, q ∈ ps) ∧ rw_.length + l.length < 1099511627776) (∀ a k, q (asResult []) (Pw.row 63 p [v0, v1, .slice a (rw_ ++ l).length k, v3, v4, v5] :: sl 61 1 (.slice a (rw_ ++ l).length k) (rw_ ++ l).length ((rw_ ++ l).map pv) :: objF tkV 65 ps (rdyL ti tk l) :: R4))) :=
  ⟨fun q h => by
    obtain ⟨⟨rfl, rfl, hp, hb⟩, hq⟩ := h
    have h3' := h3.h
    rw [hx.h] at h3'
    refine ⟨_, R4, _, ready_spec p k lk a la v0 v1 v3 v4 v5 ti rw_ l ps tk hp hb, .cons h1.h (.cons h2.h (.cons h4.h (.cons h3' (.nil _)))), fun v L' hv => ?_⟩
    obtain ⟨a', k', e1, e2⟩ := hv
    rw [e1, e2]; exact hq a' k'⟩
theorem state_spec (p : Nat) (S : Sc) (hS : S.ok) (n : Nat) :
    Sat Try.prog 16 [.pointer (some ⟨p, 0, none⟩), .int .u32 n] [scA p S] (fun u L' => u = .int .u8 (S.state n : Nat) ∧ L' = [scA p (S)]) := by
  obtain ⟨pat, tm, rw_, wt, rn, nw, ps, tk⟩ := S
  have hm := hS.map
  refine Sat.openA1 ?_
  rintro ⟨m, a, k, b, l⟩ -
  dsimp only [scL] at *
  rcases h : atP tm n with _ | q
  all_goals
    refine Sat.enter Try.func16 rfl Try.ntmps16 rfl (fun c R => ?_)
    try simp only [List.cons_append, List.nil_append]
    repeat' (first
      | (exact hm _ _ ‹_› |>.1)
      | (exact Fini.of ⟨by show _ = Value.int .u8 ((match atP tm n with | none => 0 | some q => (tk q).st : Nat) : Int); rw [h]; rfl, rfl⟩ (Imp.sc ⟨m, _, _, _, _⟩ (by repeat first | exact Imp.refl _ | (apply Imp.pull; focus ((repeat first | exact Del.head _ _ | apply Del.tail); done)) | apply Imp.drop)))
      | refine And.intro (fun hc => ?_) (fun hc => ?_)
      | refine And.intro ?_ ?_
      | intro b
      | refine stp ?_
      | refine TQ.finC ?_
      | refine TQ.finC2 ?_
      | refine TQ.finC3 ?_
      | refine ⟨fun hc => ?_, fun hc => ?_⟩
      | refine Ei.f ?_
      | refine ⟨?_, ?_⟩
      | intro b
      | omega
      | (dsimp only; omega)
      | fail)

end Go.Proofs.Ytcicmlmfnjkekaa


namespace Go.Proofs.Ytcicmlmfnjkekaa
open Go Pw
set_option maxRecDepth 20000
set_option maxHeartbeats 4000000
set_option synthInstance.maxHeartbeats 400000
set_option synthInstance.maxSize 4000
set_option maxHeartbeats 1000000

theorem T.push {P : Program} {r : Rd} {c : Ctx} {L R1 R2 : List Assn} {Q : Exit → Env → Rd → World → Prop} {E : Env} {code : Code} {b : Nat} (v : Tk) {ps : List Nat} {x : Nat → Tk} (hd1 : Del (Pw.row 65 b (tkV v)) L R1) (hd2 : Del (objF tkV 65 ps x) R1 R2) (k : b ∉ ps → T P r c (objF tkV 65 (ps ++ [b]) (upd x b v) :: R2) code Q E) : T P r c L code Q E := by
  unfold T at *
  intro w hw
  have h1 := hw.2.2.2.perm (hd1.perm.trans (hd2.perm.cons _))
  exact k (objF_apart h1) w ⟨hw.1, hw.2.1, hw.2.2.1, objF_push _ h1⟩
theorem Imp.obj0 {x : Nat → Tk} {L L' : List Assn} (i : Imp L L') : Imp L (objF tkV 65 [] x :: L') := fun f hf => ⟨fun _ => none, f, fun _ => .inl rfl, (fun _ _ h => by cases h), fun _ _ h => h, trivial, i f hf⟩
def newS (pat : Nat) : Sc := ⟨pat, [], [], [], none, 0, [], fun _ => default⟩
def Sc.spawn (S : Sc) (b id : Nat) : Sc × Nat :=
  if (atP S.tm id).isSome then (S, 9) else if 256 ≤ S.tm.length then (S, 6)
  else ({ S with tm := putP S.tm id b, ps := S.ps ++ [b], row := S.row ++ [b], tk := rdyL false (upd S.tk b ⟨id, 0, 0, 0, 0, false⟩) [b] }, 0)
theorem fresh (l : List Nat) : ∃ b, b ∉ l := by
  have key : ∀ l : List Nat, ∃ m, ∀ x ∈ l, x < m := fun l => by
    induction l with
    | nil => exact ⟨0, fun x h => by cases h⟩
    | cons a l ih =>
      obtain ⟨m, hm⟩ := ih
      refine ⟨m + a + 1, fun x h => ?_⟩
      rcases List.mem_cons.1 h with h | h
      · omega
      · have := hm x h; omega
  obtain ⟨m, hm⟩ := key l
  exact ⟨m, fun h => by have := hm m h; omega⟩
theorem spawn_9 {S : Sc} {b id : Nat} (h : (atP S.tm id).isSome) : S.spawn b id = (S, 9) := if_pos h
theorem spawn_6 {S : Sc} {b id : Nat} (h : atP S.tm id = none) (h2 : 256 ≤ S.tm.length) : S.spawn b id = (S, 6) := by rw [Sc.spawn, if_neg (by simp [h]), if_pos h2]
theorem spawn_0 {S : Sc} {b id : Nat} (h : atP S.tm id = none) (h2 : ¬ 256 ≤ S.tm.length) : S.spawn b id = ({ S with tm := putP S.tm id b, ps := S.ps ++ [b], row := S.row ++ [b], tk := rdyL false (upd S.tk b ⟨id, 0, 0, 0, 0, false⟩) [b] }, 0) := by rw [Sc.spawn, if_neg (by simp [h]), if_neg h2]
theorem why_spec (p : Nat) (S : Sc) (hS : S.ok) (n : Nat) :
    Sat Try.prog 25 [.pointer (some ⟨p, 0, none⟩), .int .u32 n] [scA p S] (fun u L' => u = .int .i64 (S.why n : Nat) ∧ L' = [scA p (S)]) := by
  obtain ⟨pat, tm, rw_, wt, rn, nw, ps, tk⟩ := S
  have hm := hS.map
  refine Sat.openA1 ?_
  rintro ⟨m, a, k, b, l⟩ -
  dsimp only [scL] at *
  rcases h : atP tm n with _ | q
  all_goals
    refine Sat.enter Try.func25 rfl Try.ntmps25 rfl (fun c R => ?_)
    try simp only [List.cons_append, List.nil_append]
    repeat' (first
      | (exact hm _ _ ‹_› |>.1)
      | (exact Fini.of ⟨by show _ = Value.int .i64 ((match atP tm n with | none => 5 | some q => if (tk q).ti then 50 else 0 : Nat) : Int); rw [h]; rfl, rfl⟩ (Imp.sc ⟨m, _, _, _, _⟩ (by repeat first | exact Imp.refl _ | (apply Imp.pull; focus ((repeat first | exact Del.head _ _ | apply Del.tail); done)) | apply Imp.drop)))
      | (exact Fini.of ⟨by show _ = Value.int .i64 ((match atP tm n with | none => 5 | some q => if (tk q).ti then 50 else 0 : Nat) : Int); rw [h]; simp only [‹(tk q).ti = _›]; rfl, rfl⟩ (Imp.sc ⟨m, _, _, _, _⟩ (by repeat first | exact Imp.refl _ | (apply Imp.pull; focus ((repeat first | exact Del.head _ _ | apply Del.tail); done)) | apply Imp.drop)))
      | refine And.intro (fun hc => ?_) (fun hc => ?_)
      | refine And.intro ?_ ?_
      | intro b
      | refine stp ?_
      | refine TQ.finC ?_
      | refine TQ.finC2 ?_
      | refine TQ.finC3 ?_
      | refine ⟨fun hc => ?_, fun hc => ?_⟩
      | refine Ei.f ?_
      | refine ⟨?_, ?_⟩
      | intro b
      | omega
      | (dsimp only; omega)
      | fail)
theorem now_spec (p : Nat) (S : Sc) (hS : S.ok) :
    Sat Try.prog 12 [.pointer (some ⟨p, 0, none⟩)] [scA p S] (fun u L' => u = .int .u64 (S.now : Nat) ∧ L' = [scA p (S)]) := by
  obtain ⟨pat, tm, rw_, wt, rn, nw, ps, tk⟩ := S
  have hm := hS.map
  refine Sat.openA1 ?_
  rintro ⟨m, a, k, b, l⟩ -
  dsimp only [scL] at *
  all_goals
    refine Sat.enter Try.func12 rfl Try.ntmps12 rfl (fun c R => ?_)
    try simp only [List.cons_append, List.nil_append]
    repeat' (first
      | (exact Fini.of ⟨by skip; rfl, rfl⟩ (Imp.sc ⟨m, _, _, _, _⟩ (by repeat first | exact Imp.refl _ | (apply Imp.pull; focus ((repeat first | exact Del.head _ _ | apply Del.tail); done)) | apply Imp.drop)))
      | refine And.intro (fun hc => ?_) (fun hc => ?_)
      | refine And.intro ?_ ?_
      | intro b
      | refine stp ?_
      | refine TQ.finC ?_
      | refine TQ.finC2 ?_
      | refine TQ.finC3 ?_
      | refine ⟨fun hc => ?_, fun hc => ?_⟩
      | refine Ei.f ?_
      | refine ⟨?_, ?_⟩
      | intro b
      | omega
      | (dsimp only; omega)
      | fail)
theorem new_spec (pat : Nat) (h1 : 1 ≤ pat) (h2 : pat ≤ 256) :
    Sat Try.prog 8 [.int .i64 (pat : Nat)] [] (fun u L' => ∃ p, u = asResult [.pointer (some ⟨p, 0, none⟩), .int .i64 (0 : Nat)] ∧ L' = [scA p (newS pat)]) := by
  all_goals
    refine Sat.enter Try.func8 rfl Try.ntmps8 rfl (fun c R => ?_)
    try simp only [List.cons_append, List.nil_append]
    repeat' (first
      | (exact absurd (by omega) hc)
      | (exact Fini.of ⟨_, rfl, rfl⟩ (Imp.sc ⟨_, none, 0, none, 0⟩ (by repeat first | exact Imp.refl _ | (apply Imp.pull; focus ((repeat first | exact Del.head _ _ | apply Del.tail); done)) | apply Imp.slN | apply Imp.obj0 | apply Imp.drop)))
      | refine And.intro (fun hc => ?_) (fun hc => ?_)
      | refine And.intro ?_ ?_
      | intro b
      | refine stp ?_
      | refine TQ.finC ?_
      | refine TQ.finC2 ?_
      | refine TQ.finC3 ?_
      | refine ⟨fun hc => ?_, fun hc => ?_⟩
      | refine Ei.f ?_
      | refine ⟨?_, ?_⟩
      | intro b
      | omega
      | (dsimp only; omega)
      | fail)
theorem new_bad (pat : Int) (h : pat < 1 ∨ 256 < pat) (h1 : -9223372036854775808 ≤ pat) (h2 : pat < 9223372036854775808) :
    Sat Try.prog 8 [.int .i64 pat] [] (fun u L' => u = asResult [.pointer none, .int .i64 (2 : Nat)] ∧ L' = []) := by
  all_goals
    refine Sat.enter Try.func8 rfl Try.ntmps8 rfl (fun c R => ?_)
    try simp only [List.cons_append, List.nil_append]
    repeat' (first
      | (refine T.atR 3 ?_; exfalso; omega)
      | (exact Fini.of ⟨rfl, rfl⟩ (Imp.refl _))
      | refine And.intro (fun hc => ?_) (fun hc => ?_)
      | refine And.intro ?_ ?_
      | intro b
      | refine stp ?_
      | refine TQ.finC ?_
      | refine TQ.finC2 ?_
      | refine TQ.finC3 ?_
      | refine ⟨fun hc => ?_, fun hc => ?_⟩
      | refine Ei.f ?_
      | refine ⟨?_, ?_⟩
      | intro b
      | omega
      | (dsimp only; omega)
      | fail)
theorem spawn_spec (p : Nat) (S : Sc) (hS : S.ok) (n : Nat) :
    Sat Try.prog 9 [.pointer (some ⟨p, 0, none⟩), .int .u32 n] [scA p S] (fun u L' => ∃ b, b ∉ S.ps ∧ u = .int .i64 ((S.spawn b n).2 : Nat) ∧ L' = [scA p (S.spawn b n).1]) := by
  obtain ⟨pat, tm, rw_, wt, rn, nw, ps, tk⟩ := S
  have hm := hS.map
  refine Sat.openA1 ?_
  rintro ⟨m, a, k, b, l⟩ -
  dsimp only [scL] at *
  obtain ⟨b0, hb0⟩ := fresh ps
  rcases h : atP tm n with _ | q
  all_goals
    refine Sat.enter Try.func9 rfl Try.ntmps9 rfl (fun c R => ?_)
    try simp only [List.cons_append, List.nil_append]
    repeat' (first
      | (exact hm _ _ ‹_› |>.1)
      | (refine T.atR 8 ?_; refine T.push ⟨n, 0, 0, 0, 0, false⟩ (b := b) (by first | exact Del.head _ _ | exact Del.tail (Del.head _ _) | exact Del.tail (Del.tail (Del.head _ _)) | exact Del.tail (Del.tail (Del.tail (Del.head _ _))) | exact Del.tail (Del.tail (Del.tail (Del.tail (Del.head _ _)))) | exact Del.tail (Del.tail (Del.tail (Del.tail (Del.tail (Del.head _ _))))) | exact Del.tail (Del.tail (Del.tail (Del.tail (Del.tail (Del.tail (Del.head _ _)))))) | exact Del.tail (Del.tail (Del.tail (Del.tail (Del.tail (Del.tail (Del.tail (Del.head _ _))))))) | exact Del.tail (Del.tail (Del.tail (Del.tail (Del.tail (Del.tail (Del.tail (Del.tail (Del.head _ _))))))))) (by first | exact Del.head _ _ | exact Del.tail (Del.head _ _) | exact Del.tail (Del.tail (Del.head _ _)) | exact Del.tail (Del.tail (Del.tail (Del.head _ _))) | exact Del.tail (Del.tail (Del.tail (Del.tail (Del.head _ _)))) | exact Del.tail (Del.tail (Del.tail (Del.tail (Del.tail (Del.head _ _))))) | exact Del.tail (Del.tail (Del.tail (Del.tail (Del.tail (Del.tail (Del.head _ _)))))) | exact Del.tail (Del.tail (Del.tail (Del.tail (Del.tail (Del.tail (Del.tail (Del.head _ _))))))) | exact Del.tail (Del.tail (Del.tail (Del.tail (Del.tail (Del.tail (Del.tail (Del.tail (Del.head _ _))))))))) (fun hb => ?_); obtain ⟨b9, hb9⟩ : ∃ x, x = b := ⟨_, rfl⟩; subst hb9)
      | (refine Vc.mk ⟨rfl, rfl, by simp, by have := hS.rl; dsimp only at this; simp; omega⟩ ?_)
      | (exact Fini.of ⟨b0, hb0, by rw [spawn_9 (S := ⟨pat, tm, rw_, wt, rn, nw, ps, tk⟩) (b := b0) (id := n) (by show (atP tm n).isSome = true; rw [h]; rfl)]; rfl, by rw [spawn_9 (S := ⟨pat, tm, rw_, wt, rn, nw, ps, tk⟩) (b := b0) (id := n) (by show (atP tm n).isSome = true; rw [h]; rfl)]⟩ (by exact (Imp.sc ⟨m, _, _, _, _⟩ (by repeat first | exact Imp.refl _ | (apply Imp.pull; focus ((repeat first | exact Del.head _ _ | apply Del.tail); done)) | apply Imp.drop))))
      | (exact Fini.of ⟨b0, hb0, by rw [spawn_6 (S := ⟨pat, tm, rw_, wt, rn, nw, ps, tk⟩) (b := b0) (id := n) h (by assumption)]; rfl, by rw [spawn_6 (S := ⟨pat, tm, rw_, wt, rn, nw, ps, tk⟩) (b := b0) (id := n) h (by assumption)]⟩ (by exact (Imp.sc ⟨m, _, _, _, _⟩ (by repeat first | exact Imp.refl _ | (apply Imp.pull; focus ((repeat first | exact Del.head _ _ | apply Del.tail); done)) | apply Imp.drop))))
      | (exact Fini.of ⟨b9, hb, by rw [spawn_0 (S := ⟨pat, tm, rw_, wt, rn, nw, ps, tk⟩) (b := b9) (id := n) h (by assumption)]; rfl, by rw [spawn_0 (S := ⟨pat, tm, rw_, wt, rn, nw, ps, tk⟩) (b := b9) (id := n) h (by assumption)]⟩ (by exact (Imp.sc ⟨m, _, _, _, _⟩ (by repeat first | exact Imp.refl _ | (apply Imp.pull; focus ((repeat first | exact Del.head _ _ | apply Del.tail); done)) | apply Imp.drop))))
      | refine And.intro (fun hc => ?_) (fun hc => ?_)
      | refine And.intro ?_ ?_
      | intro b
      | refine stp ?_
      | refine TQ.finC ?_
      | refine TQ.finC2 ?_
      | refine TQ.finC3 ?_
      | refine ⟨fun hc => ?_, fun hc => ?_⟩
      | refine Ei.f ?_
      | refine ⟨?_, ?_⟩
      | intro b
      | omega
      | (dsimp only; omega)
      | fail)

end Go.Proofs.Ytcicmlmfnjkekaa


namespace Go.Proofs.Ytcicmlmfnjkekaa
open Go Pw
set_option maxRecDepth 20000
set_option maxHeartbeats 4000000
set_option synthInstance.maxHeartbeats 400000
set_option synthInstance.maxSize 4000
set_option maxHeartbeats 1000000

def Sc.yield (S : Sc) : Sc × Nat := match S.runs with
  | none => (S, 3)
  | some t => ({ S with runs := none, row := S.row ++ [t], tk := rdyL false S.tk [t] }, 0)
theorem yield1_spec (p k t bx : Nat) (a : Option Addr) (v0 v1 v3 v4 v5 : Value) (rw_ ps : List Nat) (tk : Nat → Tk) (ht : t ∈ ps) (hl : rw_.length < 1000000000) :
    Sat Try.prog 37 [.pointer (some ⟨t, 0, none⟩), .pointer (some ⟨bx, 0, none⟩)] [Pw.row 24 bx [.pointer (some ⟨p, 0, none⟩)], Pw.row 63 p [v0, v1, .slice a rw_.length k, v3, v4, v5], sl 61 1 (.slice a (rw_).length k) (rw_).length ((rw_).map pv), objF tkV 65 ps (tk)] (fun u L' => ∃ a k, u = .int .i64 (0 : Nat) ∧ L' = [Pw.row 24 bx [.pointer (some ⟨p, 0, none⟩)], Pw.row 63 p [v0, v1, .slice a (rw_ ++ [t]).length k, v3, v4, v5], sl 61 1 (.slice a (rw_ ++ [t]).length k) (rw_ ++ [t]).length ((rw_ ++ [t]).map pv), objF tkV 65 ps (rdyL false tk [t])]) := by
  all_goals
    refine Sat.enter Try.func37 rfl Try.ntmps37 rfl (fun c R => ?_)
    try simp only [List.cons_append, List.nil_append]
    repeat' (first
      | (refine Vc.mk ⟨rfl, rfl, by intro q hq; rcases List.mem_singleton.1 hq with rfl; exact ht, by simp; omega⟩ ?_)
      | (exact Fini.of ⟨_, _, rfl, rfl⟩ (by repeat first | exact Imp.refl _ | (apply Imp.pull; focus ((repeat first | exact Del.head _ _ | apply Del.tail); done)) | apply Imp.drop))
      | refine And.intro (fun hc => ?_) (fun hc => ?_)
      | refine And.intro ?_ ?_
      | intro b
      | refine stp ?_
      | refine TQ.finC ?_
      | refine TQ.finC2 ?_
      | refine TQ.finC3 ?_
      | refine ⟨fun hc => ?_, fun hc => ?_⟩
      | refine Ei.f ?_
      | refine ⟨?_, ?_⟩
      | intro b
      | omega
      | (dsimp only; omega)
      | fail)
instance {L R0 R1 R2 R3 : List Assn} {p k t bx rn : Nat} {a : Option Addr} {v0 v1 v3 v4 v5 : Value} {rw_ ps : List Nat} {tk : Nat → Tk} [h0 : RowDel L bx 24 [.pointer (some ⟨p, 0, none⟩)] R0] [h1 : RowDel R0 p 63 [v0, v1, .slice a rn k, v3, v4, v5] R1] [h2 : SlAt R1 (.slice a rn k) 61 1 rn (rw_.map pv) R2] [h4 : ObjAt R2 Tk tkV 65 ps tk R3] : FnR Try.prog 37 [.pointer (some ⟨t, 0, none⟩), .pointer (some ⟨bx, 0, none⟩)] L (fun q => Vc (rn = rw_.length ∧ t ∈ ps ∧ rw_.length < 1000000000) (∀ a k, q (.int .i64 (0 : Nat)) (Pw.row 24 bx [.pointer (some ⟨p, 0, none⟩)] :: Pw.row 63 p [v0, v1, .slice a (rw_ ++ [t]).length k, v3, v4, v5] :: sl 61 1 (.slice a (rw_ ++ [t]).length k) (rw_ ++ [t]).length ((rw_ ++ [t]).map pv) :: objF tkV 65 ps (rdyL false tk [t]) :: R3))) :=
  ⟨fun q h => by
    obtain ⟨⟨rfl, hp, hb⟩, hq⟩ := h
    refine ⟨_, R3, _, yield1_spec p k t bx a v0 v1 v3 v4 v5 rw_ ps tk hp hb, .cons h0.h (.cons h1.h (.cons h2.h (.cons h4.h (.nil _)))), fun v L' hv => ?_⟩
    obtain ⟨a', k', e1, e2⟩ := hv
    rw [e1, e2]; exact hq a' k'⟩
theorem stops_yield (p bx : Nat) (S : Sc) (hS : S.ok) :
    Sat Try.prog 35 [.pointer (some ⟨p, 0, none⟩), .func (.func 37) #[] #[.pointer (some ⟨bx, 0, none⟩)]] [Pw.row 24 bx [.pointer (some ⟨p, 0, none⟩)], scA p S] (fun u L' => u = .int .i64 (S.yield.2 : Nat) ∧ L' = [Pw.row 24 bx [.pointer (some ⟨p, 0, none⟩)], scA p S.yield.1]) := by
  obtain ⟨pat, tm, rw_, wt, rn, nw, ps, tk⟩ := S
  have hm := hS.map
  refine Sat.openA (.tail (.head _ _)) ?_
  rintro ⟨m, a, k, b, l⟩ -
  have hrl := hS.rl
  have hru := hS.runs
  dsimp only [scL] at *
  rcases rn with _ | t <;> dsimp only [optP] at *
  all_goals
    refine Sat.enter Try.func35 rfl Try.ntmps35 rfl (fun c R => ?_)
    try simp only [List.cons_append, List.nil_append]
    repeat' (first
      | (refine Vc.mk ⟨rfl, hru _ rfl, by omega⟩ ?_)
      | (exact Fini.of ⟨rfl, rfl⟩ (Imp.pull (by first | exact Del.head _ _ | exact Del.tail (Del.head _ _) | exact Del.tail (Del.tail (Del.head _ _)) | exact Del.tail (Del.tail (Del.tail (Del.head _ _))) | exact Del.tail (Del.tail (Del.tail (Del.tail (Del.head _ _)))) | exact Del.tail (Del.tail (Del.tail (Del.tail (Del.tail (Del.head _ _))))) | exact Del.tail (Del.tail (Del.tail (Del.tail (Del.tail (Del.tail (Del.head _ _)))))) | exact Del.tail (Del.tail (Del.tail (Del.tail (Del.tail (Del.tail (Del.tail (Del.head _ _))))))) | exact Del.tail (Del.tail (Del.tail (Del.tail (Del.tail (Del.tail (Del.tail (Del.tail (Del.head _ _))))))))) (by exact (Imp.sc ⟨m, _, _, _, _⟩ (by repeat first | exact Imp.refl _ | (apply Imp.pull; focus ((repeat first | exact Del.head _ _ | apply Del.tail); done)) | apply Imp.drop)))))
      | refine And.intro (fun hc => ?_) (fun hc => ?_)
      | refine And.intro ?_ ?_
      | intro b
      | refine stp ?_
      | refine TQ.finC ?_
      | refine TQ.finC2 ?_
      | refine TQ.finC3 ?_
      | refine ⟨fun hc => ?_, fun hc => ?_⟩
      | refine Ei.f ?_
      | refine ⟨?_, ?_⟩
      | intro b
      | omega
      | (dsimp only; omega)
      | fail)

end Go.Proofs.Ytcicmlmfnjkekaa


namespace Go.Proofs.Ytcicmlmfnjkekaa
open Go Pw
set_option maxRecDepth 20000
set_option maxHeartbeats 4000000
set_option synthInstance.maxHeartbeats 400000
set_option synthInstance.maxSize 4000
set_option maxHeartbeats 1000000

def waitT (tk : Nat → Tk) (t q u : Nat) : Nat → Tk := upd tk t { tk t with st := 3, qu := q, un := u }
theorem wait3 (tk : Nat → Tk) (t q u : Nat) (a b : Tk) (ha : a = { tk t with st := 3 }) (hb : b = { upd tk t a t with qu := q }) : upd (upd (upd tk t a) t b) t { upd (upd tk t a) t b t with un := u } = waitT tk t q u := by
  subst ha; subst hb
  funext r
  unfold waitT upd
  by_cases h : r = t <;> simp [h]
def badW (now u : Nat) : Prop := u ≠ 0 ∧ (u ≤ now ∨ 4611686018427387904 ≤ u)
instance {now u : Nat} : Decidable (badW now u) := inferInstanceAs (Decidable (u ≠ 0 ∧ (u ≤ now ∨ 4611686018427387904 ≤ u)))
def Sc.wait (S : Sc) (q u : Nat) : Sc × Nat := match S.runs with
  | none => (S, 3)
  | some t => if badW S.now u then (S, 2) else ({ S with runs := none, waits := S.waits ++ [t], tk := waitT S.tk t q u }, 0)
def Sc.done (S : Sc) : Sc × Nat := match S.runs with
  | none => (S, 3)
  | some t => ({ S with runs := none, tm := delP S.tm (S.tk t).id }, 0)
theorem wait1_bad (p k t bx bu bq nw u qq : Nat) (a : Option Addr) (v0 v1 v2 v4 : Value) (wt ps : List Nat) (tk : Nat → Tk) (ht : t ∈ ps) (hl : wt.length < 1000000000) (hu : u < 18446744073709551616) (hb : badW nw u) :
    Sat Try.prog 36 [.pointer (some ⟨t, 0, none⟩), .pointer (some ⟨bu, 0, none⟩), .pointer (some ⟨bx, 0, none⟩), .pointer (some ⟨bq, 0, none⟩)] [Pw.row 33 bu [.int .u64 (u : Nat)], Pw.row 24 bx [.pointer (some ⟨p, 0, none⟩)], Pw.row 29 bq [.int .u32 (qq : Nat)], Pw.row 63 p [v0, v1, v2, .slice a wt.length k, v4, .int .u64 (nw : Nat)], sl 61 1 (.slice a (wt).length k) (wt).length ((wt).map pv), objF tkV 65 ps (tk)] (fun u9 L' => u9 = .int .i64 (2 : Nat) ∧ L' = [Pw.row 33 bu [.int .u64 (u : Nat)], Pw.row 24 bx [.pointer (some ⟨p, 0, none⟩)], Pw.row 29 bq [.int .u32 (qq : Nat)], Pw.row 63 p [v0, v1, v2, .slice a wt.length k, v4, .int .u64 (nw : Nat)], sl 61 1 (.slice a (wt).length k) (wt).length ((wt).map pv), objF tkV 65 ps (tk)]) := by
  all_goals
    refine Sat.enter Try.func36 rfl Try.ntmps36 rfl (fun c R => ?_)
    try simp only [List.cons_append, List.nil_append]
    repeat' (first
      | (refine T.atR 3 ?_; exact absurd hb (by unfold badW; omega))
      | (exact Fini.of ⟨rfl, rfl⟩ (by repeat first | exact Imp.refl _ | (apply Imp.pull; focus ((repeat first | exact Del.head _ _ | apply Del.tail); done)) | apply Imp.drop))
      | refine T.pl 1 [] (.d 0 (.p 1 (.p 2 (.d 3 (.d 4 (.p 5 (.d 6 (.d 7 (.p 8 (.p 9 (.d 10 (.p 11 (.p 12 (.p 13 .fin)))))))))))))) ?_
      | refine T.pl 3 [7, 10, 13] (.p 0 (.p 1 (.p 2 (.p 5 (.d 6 (.b3 3 (.b2 4 (.n 7 (.p 8 (.d 9 (.n 10 (.p 11 (.d 12 (.n 13 .fin))))))) 7 (.p 8 (.d 9 (.b2 4 (.n 10 (.p 11 (.d 12 (.n 13 .fin)))) 10 (.d 4 (.p 11 (.d 12 (.n 13 .fin)))))))) 4 (.b2 3 (.n 7 (.p 8 (.d 9 (.n 10 (.p 11 (.d 12 (.n 13 .fin))))))) 7 (.d 3 (.p 8 (.d 9 (.n 10 (.p 11 (.d 12 (.n 13 .fin)))))))) 7 (.d 3 (.p 8 (.d 9 (.b2 4 (.n 10 (.p 11 (.d 12 (.n 13 .fin)))) 10 (.d 4 (.p 11 (.d 12 (.n 13 .fin)))))))))))))) ?_
      | refine T.pl 4 [6, 7, 10] (.p 5 (.b3 0 (.b2 1 (.p 2 (.p 3 (.b2 4 (.n 6 (.n 7 (.p 8 (.d 9 (.n 10 .fin))))) 6 (.d 4 (.n 7 (.p 8 (.d 9 (.n 10 .fin)))))))) 6 (.d 1 (.p 2 (.d 3 (.d 4 (.n 7 (.p 8 (.d 9 (.n 10 .fin))))))))) 1 (.p 2 (.p 3 (.b3 0 (.b2 4 (.n 6 (.n 7 (.p 8 (.d 9 (.n 10 .fin))))) 6 (.d 4 (.n 7 (.p 8 (.d 9 (.n 10 .fin)))))) 4 (.b2 0 (.n 6 (.n 7 (.p 8 (.d 9 (.n 10 .fin))))) 6 (.b2 0 (.n 7 (.p 8 (.d 9 (.n 10 .fin)))) 7 (.d 0 (.p 8 (.d 9 (.n 10 .fin)))))) 6 (.d 4 (.b2 0 (.n 7 (.p 8 (.d 9 (.n 10 .fin)))) 7 (.d 0 (.p 8 (.d 9 (.n 10 .fin))))))))) 6 (.d 1 (.p 2 (.d 3 (.d 4 (.b2 0 (.n 7 (.p 8 (.d 9 (.n 10 .fin)))) 7 (.d 0 (.p 8 (.d 9 (.n 10 .fin))))))))))) ?_
      | refine And.intro (fun hc => ?_) (fun hc => ?_)
      | refine And.intro ?_ ?_
      | intro b
      | refine stp ?_
      | refine TQ.finC ?_
      | refine TQ.finC2 ?_
      | refine TQ.finC3 ?_
      | refine ⟨fun hc => ?_, fun hc => ?_⟩
      | refine Ei.f ?_
      | refine ⟨?_, ?_⟩
      | intro b
      | omega
      | (dsimp only; omega)
      | fail)
theorem wait1_ok (p k t bx bu bq nw u qq : Nat) (a : Option Addr) (v0 v1 v2 v4 : Value) (wt ps : List Nat) (tk : Nat → Tk) (ht : t ∈ ps) (hl : wt.length < 1000000000) (hu : u < 18446744073709551616) (hb : ¬ badW nw u) :
    Sat Try.prog 36 [.pointer (some ⟨t, 0, none⟩), .pointer (some ⟨bu, 0, none⟩), .pointer (some ⟨bx, 0, none⟩), .pointer (some ⟨bq, 0, none⟩)] [Pw.row 33 bu [.int .u64 (u : Nat)], Pw.row 24 bx [.pointer (some ⟨p, 0, none⟩)], Pw.row 29 bq [.int .u32 (qq : Nat)], Pw.row 63 p [v0, v1, v2, .slice a wt.length k, v4, .int .u64 (nw : Nat)], sl 61 1 (.slice a (wt).length k) (wt).length ((wt).map pv), objF tkV 65 ps (tk)] (fun u9 L' => ∃ a k, u9 = .int .i64 (0 : Nat) ∧ L' = [Pw.row 33 bu [.int .u64 (u : Nat)], Pw.row 24 bx [.pointer (some ⟨p, 0, none⟩)], Pw.row 29 bq [.int .u32 (qq : Nat)], Pw.row 63 p [v0, v1, v2, .slice a (wt ++ [t]).length k, v4, .int .u64 (nw : Nat)], sl 61 1 (.slice a (wt ++ [t]).length k) (wt ++ [t]).length ((wt ++ [t]).map pv), objF tkV 65 ps (waitT tk t qq u)]) := by
  all_goals
    refine Sat.enter Try.func36 rfl Try.ntmps36 rfl (fun c R => ?_)
    try simp only [List.cons_append, List.nil_append]
    repeat' (first
      | (refine T.atR 2 ?_; exact absurd (by unfold badW; omega) hb)
      | (refine T.atR 4 ?_; rw [wait3 tk t qq u _ _ rfl rfl])
      | (rename_i a4; rw [show wt.length + 1 = (wt ++ [t]).length by simp, show wt.map pv ++ [.pointer (some ⟨t, 0, none⟩)] = (wt ++ [t]).map pv by simp]; exact Fini.of ⟨_, _, rfl, rfl⟩ (by repeat first | exact Imp.refl _ | (apply Imp.pull; focus ((repeat first | exact Del.head _ _ | apply Del.tail); done)) | apply Imp.drop))
      | exact List.length_map _
      | exact (rfl : (61 : Nat) = 61)
      | exact trivial
      | (rw [List.length_map, Nat.mul_one])
      | refine T.pl 1 [] (.d 0 (.p 1 (.p 2 (.d 3 (.d 4 (.p 5 (.d 6 (.d 7 (.p 8 (.p 9 (.d 10 (.p 11 (.p 12 (.p 13 .fin)))))))))))))) ?_
      | refine T.pk 3 [7, 10, 13] (.p 0 (.p 1 (.p 2 (.p 5 (.g 3 (.g 4 (.d 6 (.n 7 (.p 8 (.d 9 (.n 10 (.p 11 (.d 12 (.n 13 .fin)))))))))))))) ?_
      | refine T.pk 4 [6, 7, 10] (.p 5 (.g 0 (.g 1 (.p 2 (.p 3 (.b2 4 (.n 6 (.n 7 (.p 8 (.d 9 (.n 10 .fin))))) 6 (.d 4 (.n 7 (.p 8 (.d 9 (.n 10 .fin))))))))))) ?_
      | refine And.intro (fun hc => ?_) (fun hc => ?_)
      | refine And.intro ?_ ?_
      | intro b
      | refine stk ?_
      | refine stp ?_
      | refine TQ.finC ?_
      | refine TQ.finC2 ?_
      | refine TQ.finC3 ?_
      | refine ⟨fun hc => ?_, fun hc => ?_⟩
      | refine Ei.f ?_
      | refine ⟨?_, ?_⟩
      | intro b
      | omega
      | (dsimp only; omega)
      | fail)
instance {L R0 R1 R2 R3 R4 R5 : List Assn} {p k t bx bu bq nw u qq rn : Nat} {x y z : Int} {a : Option Addr} {v0 v1 v2 v4 : Value} {wt ps : List Nat} {tk : Nat → Tk} [hx : Nn x u] [hy : Nn y qq] [hz : Nn z nw] [h0 : RowDel L bu 33 [.int .u64 x] R0] [h1 : RowDel R0 bx 24 [.pointer (some ⟨p, 0, none⟩)] R1] [h2 : RowDel R1 bq 29 [.int .u32 y] R2] [h3 : RowDel R2 p 63 [v0, v1, v2, .slice a rn k, v4, .int .u64 z] R3] [h4 : SlAt R3 (.slice a rn k) 61 1 rn (wt.map pv) R4] [h5 : ObjAt R4 Tk tkV 65 ps tk R5] : FnR Try.prog 36 [.pointer (some ⟨t, 0, none⟩), .pointer (some ⟨bu, 0, none⟩), .pointer (some ⟨bx, 0, none⟩), .pointer (some ⟨bq, 0, none⟩)] L (fun q => Vc (rn = wt.length ∧ t ∈ ps ∧ wt.length < 1000000000 ∧ u < 18446744073709551616) ((badW nw u → q (.int .i64 (2 : Nat)) (Pw.row 33 bu [.int .u64 (u : Nat)] :: Pw.row 24 bx [.pointer (some ⟨p, 0, none⟩)] :: Pw.row 29 bq [.int .u32 (qq : Nat)] :: Pw.row 63 p [v0, v1, v2, .slice a wt.length k, v4, .int .u64 (nw : Nat)] :: sl 61 1 (.slice a (wt).length k) (wt).length ((wt).map pv) :: objF tkV 65 ps (tk) :: R5)) ∧ (¬ badW nw u → ∀ a k, q (.int .i64 (0 : Nat)) (Pw.row 33 bu [.int .u64 (u : Nat)] :: Pw.row 24 bx [.pointer (some ⟨p, 0, none⟩)] :: Pw.row 29 bq [.int .u32 (qq : Nat)] :: Pw.row 63 p [v0, v1, v2, .slice a (wt ++ [t]).length k, v4, .int .u64 (nw : Nat)] :: sl 61 1 (.slice a (wt ++ [t]).length k) (wt ++ [t]).length ((wt ++ [t]).map pv) :: objF tkV 65 ps (waitT tk t qq u) :: R5)))) :=
  ⟨fun q h => by
    obtain ⟨⟨rfl, hp, hb, hu⟩, hq1, hq2⟩ := h
    have e0 := h0.h; rw [hx.h] at e0
    have e2 := h2.h; rw [hy.h] at e2
    have e3 := h3.h; rw [hz.h] at e3
    by_cases hw : badW nw u
    · exact ⟨_, R5, _, wait1_bad p k t bx bu bq nw u qq a v0 v1 v2 v4 wt ps tk hp hb hu hw, .cons e0 (.cons h1.h (.cons e2 (.cons e3 (.cons h4.h (.cons h5.h (.nil _)))))), fun v L' hv => by rw [hv.1, hv.2]; exact hq1 hw⟩
    · refine ⟨_, R5, _, wait1_ok p k t bx bu bq nw u qq a v0 v1 v2 v4 wt ps tk hp hb hu hw, .cons e0 (.cons h1.h (.cons e2 (.cons e3 (.cons h4.h (.cons h5.h (.nil _)))))), fun v L' hv => ?_⟩
      obtain ⟨a', k', e1, e2⟩ := hv
      rw [e1, e2]; exact hq2 hw a' k'⟩
theorem stops_wait (p bx bu bq u qq : Nat) (S : Sc) (hS : S.ok) (hu : u < 18446744073709551616) :
    Sat Try.prog 35 [.pointer (some ⟨p, 0, none⟩), .func (.func 36) #[] #[.pointer (some ⟨bu, 0, none⟩), .pointer (some ⟨bx, 0, none⟩), .pointer (some ⟨bq, 0, none⟩)]] [Pw.row 33 bu [.int .u64 (u : Nat)], Pw.row 24 bx [.pointer (some ⟨p, 0, none⟩)], Pw.row 29 bq [.int .u32 (qq : Nat)], scA p S] (fun u9 L' => u9 = .int .i64 ((S.wait qq u).2 : Nat) ∧ L' = [Pw.row 33 bu [.int .u64 (u : Nat)], Pw.row 24 bx [.pointer (some ⟨p, 0, none⟩)], Pw.row 29 bq [.int .u32 (qq : Nat)], scA p (S.wait qq u).1]) := by
  obtain ⟨pat, tm, rw_, wt, rn, nw, ps, tk⟩ := S
  have hm := hS.map
  refine Sat.openA (.tail (.tail (.tail (.head _ _)))) ?_
  rintro ⟨m, a, k, b, l⟩ -
  have hrl := hS.rl
  have hru := hS.runs
  have hm2 := hS.map
  dsimp only [scL] at *
  rcases rn with _ | t <;> dsimp only [optP] at *
  all_goals
    refine Sat.enter Try.func35 rfl Try.ntmps35 rfl (fun c R => ?_)
    try simp only [List.cons_append, List.nil_append]
    repeat' (first
      | (refine Vc.mk ⟨rfl, hru _ rfl, by omega, hu⟩ ?_)
      | (exact Fini.of ⟨rfl, rfl⟩ (Imp.pull (by first | exact Del.head _ _ | exact Del.tail (Del.head _ _) | exact Del.tail (Del.tail (Del.head _ _)) | exact Del.tail (Del.tail (Del.tail (Del.head _ _))) | exact Del.tail (Del.tail (Del.tail (Del.tail (Del.head _ _)))) | exact Del.tail (Del.tail (Del.tail (Del.tail (Del.tail (Del.head _ _))))) | exact Del.tail (Del.tail (Del.tail (Del.tail (Del.tail (Del.tail (Del.head _ _)))))) | exact Del.tail (Del.tail (Del.tail (Del.tail (Del.tail (Del.tail (Del.tail (Del.head _ _))))))) | exact Del.tail (Del.tail (Del.tail (Del.tail (Del.tail (Del.tail (Del.tail (Del.tail (Del.head _ _))))))))) (Imp.pull (by first | exact Del.head _ _ | exact Del.tail (Del.head _ _) | exact Del.tail (Del.tail (Del.head _ _)) | exact Del.tail (Del.tail (Del.tail (Del.head _ _))) | exact Del.tail (Del.tail (Del.tail (Del.tail (Del.head _ _)))) | exact Del.tail (Del.tail (Del.tail (Del.tail (Del.tail (Del.head _ _))))) | exact Del.tail (Del.tail (Del.tail (Del.tail (Del.tail (Del.tail (Del.head _ _)))))) | exact Del.tail (Del.tail (Del.tail (Del.tail (Del.tail (Del.tail (Del.tail (Del.head _ _))))))) | exact Del.tail (Del.tail (Del.tail (Del.tail (Del.tail (Del.tail (Del.tail (Del.tail (Del.head _ _))))))))) (Imp.pull (by first | exact Del.head _ _ | exact Del.tail (Del.head _ _) | exact Del.tail (Del.tail (Del.head _ _)) | exact Del.tail (Del.tail (Del.tail (Del.head _ _))) | exact Del.tail (Del.tail (Del.tail (Del.tail (Del.head _ _)))) | exact Del.tail (Del.tail (Del.tail (Del.tail (Del.tail (Del.head _ _))))) | exact Del.tail (Del.tail (Del.tail (Del.tail (Del.tail (Del.tail (Del.head _ _)))))) | exact Del.tail (Del.tail (Del.tail (Del.tail (Del.tail (Del.tail (Del.tail (Del.head _ _))))))) | exact Del.tail (Del.tail (Del.tail (Del.tail (Del.tail (Del.tail (Del.tail (Del.tail (Del.head _ _))))))))) (by exact (Imp.sc ⟨m, _, _, _, _⟩ (by repeat first | exact Imp.refl _ | (apply Imp.pull; focus ((repeat first | exact Del.head _ _ | apply Del.tail); done)) | apply Imp.drop)))))))
      | (exact Fini.of ⟨by show _ = Value.int .i64 (((if badW nw u then (_, 2) else (_, 0) : Sc × Nat).2 : Nat) : Int); rw [if_pos ‹badW nw u›]; rfl, by show _ = [_, _, _, scA p (if badW nw u then (⟨pat, tm, rw_, wt, some t, nw, ps, tk⟩, 2) else _ : Sc × Nat).1]; rw [if_pos ‹badW nw u›]⟩ (by exact (Imp.pull (by first | exact Del.head _ _ | exact Del.tail (Del.head _ _) | exact Del.tail (Del.tail (Del.head _ _)) | exact Del.tail (Del.tail (Del.tail (Del.head _ _))) | exact Del.tail (Del.tail (Del.tail (Del.tail (Del.head _ _)))) | exact Del.tail (Del.tail (Del.tail (Del.tail (Del.tail (Del.head _ _))))) | exact Del.tail (Del.tail (Del.tail (Del.tail (Del.tail (Del.tail (Del.head _ _)))))) | exact Del.tail (Del.tail (Del.tail (Del.tail (Del.tail (Del.tail (Del.tail (Del.head _ _))))))) | exact Del.tail (Del.tail (Del.tail (Del.tail (Del.tail (Del.tail (Del.tail (Del.tail (Del.head _ _))))))))) (Imp.pull (by first | exact Del.head _ _ | exact Del.tail (Del.head _ _) | exact Del.tail (Del.tail (Del.head _ _)) | exact Del.tail (Del.tail (Del.tail (Del.head _ _))) | exact Del.tail (Del.tail (Del.tail (Del.tail (Del.head _ _)))) | exact Del.tail (Del.tail (Del.tail (Del.tail (Del.tail (Del.head _ _))))) | exact Del.tail (Del.tail (Del.tail (Del.tail (Del.tail (Del.tail (Del.head _ _)))))) | exact Del.tail (Del.tail (Del.tail (Del.tail (Del.tail (Del.tail (Del.tail (Del.head _ _))))))) | exact Del.tail (Del.tail (Del.tail (Del.tail (Del.tail (Del.tail (Del.tail (Del.tail (Del.head _ _))))))))) (Imp.pull (by first | exact Del.head _ _ | exact Del.tail (Del.head _ _) | exact Del.tail (Del.tail (Del.head _ _)) | exact Del.tail (Del.tail (Del.tail (Del.head _ _))) | exact Del.tail (Del.tail (Del.tail (Del.tail (Del.head _ _)))) | exact Del.tail (Del.tail (Del.tail (Del.tail (Del.tail (Del.head _ _))))) | exact Del.tail (Del.tail (Del.tail (Del.tail (Del.tail (Del.tail (Del.head _ _)))))) | exact Del.tail (Del.tail (Del.tail (Del.tail (Del.tail (Del.tail (Del.tail (Del.head _ _))))))) | exact Del.tail (Del.tail (Del.tail (Del.tail (Del.tail (Del.tail (Del.tail (Del.tail (Del.head _ _))))))))) (by exact (Imp.sc ⟨m, _, _, _, _⟩ (by repeat first | exact Imp.refl _ | (apply Imp.pull; focus ((repeat first | exact Del.head _ _ | apply Del.tail); done)) | apply Imp.drop))))))))
      | (exact Fini.of ⟨by show _ = Value.int .i64 (((if badW nw u then (_, 2) else (_, 0) : Sc × Nat).2 : Nat) : Int); rw [if_neg ‹¬ badW nw u›]; rfl, by show _ = [_, _, _, scA p (if badW nw u then _ else (⟨pat, tm, rw_, wt ++ [t], none, nw, ps, waitT tk t qq u⟩, 0) : Sc × Nat).1]; rw [if_neg ‹¬ badW nw u›]⟩ (by exact (Imp.pull (by first | exact Del.head _ _ | exact Del.tail (Del.head _ _) | exact Del.tail (Del.tail (Del.head _ _)) | exact Del.tail (Del.tail (Del.tail (Del.head _ _))) | exact Del.tail (Del.tail (Del.tail (Del.tail (Del.head _ _)))) | exact Del.tail (Del.tail (Del.tail (Del.tail (Del.tail (Del.head _ _))))) | exact Del.tail (Del.tail (Del.tail (Del.tail (Del.tail (Del.tail (Del.head _ _)))))) | exact Del.tail (Del.tail (Del.tail (Del.tail (Del.tail (Del.tail (Del.tail (Del.head _ _))))))) | exact Del.tail (Del.tail (Del.tail (Del.tail (Del.tail (Del.tail (Del.tail (Del.tail (Del.head _ _))))))))) (Imp.pull (by first | exact Del.head _ _ | exact Del.tail (Del.head _ _) | exact Del.tail (Del.tail (Del.head _ _)) | exact Del.tail (Del.tail (Del.tail (Del.head _ _))) | exact Del.tail (Del.tail (Del.tail (Del.tail (Del.head _ _)))) | exact Del.tail (Del.tail (Del.tail (Del.tail (Del.tail (Del.head _ _))))) | exact Del.tail (Del.tail (Del.tail (Del.tail (Del.tail (Del.tail (Del.head _ _)))))) | exact Del.tail (Del.tail (Del.tail (Del.tail (Del.tail (Del.tail (Del.tail (Del.head _ _))))))) | exact Del.tail (Del.tail (Del.tail (Del.tail (Del.tail (Del.tail (Del.tail (Del.tail (Del.head _ _))))))))) (Imp.pull (by first | exact Del.head _ _ | exact Del.tail (Del.head _ _) | exact Del.tail (Del.tail (Del.head _ _)) | exact Del.tail (Del.tail (Del.tail (Del.head _ _))) | exact Del.tail (Del.tail (Del.tail (Del.tail (Del.head _ _)))) | exact Del.tail (Del.tail (Del.tail (Del.tail (Del.tail (Del.head _ _))))) | exact Del.tail (Del.tail (Del.tail (Del.tail (Del.tail (Del.tail (Del.head _ _)))))) | exact Del.tail (Del.tail (Del.tail (Del.tail (Del.tail (Del.tail (Del.tail (Del.head _ _))))))) | exact Del.tail (Del.tail (Del.tail (Del.tail (Del.tail (Del.tail (Del.tail (Del.tail (Del.head _ _))))))))) (by exact (Imp.sc ⟨m, _, _, _, _⟩ (by repeat first | exact Imp.refl _ | (apply Imp.pull; focus ((repeat first | exact Del.head _ _ | apply Del.tail); done)) | apply Imp.drop))))))))
      | refine And.intro (fun hc => ?_) (fun hc => ?_)
      | refine And.intro ?_ ?_
      | intro b
      | refine stp ?_
      | refine TQ.finC ?_
      | refine TQ.finC2 ?_
      | refine TQ.finC3 ?_
      | refine ⟨fun hc => ?_, fun hc => ?_⟩
      | refine Ei.f ?_
      | refine ⟨?_, ?_⟩
      | intro b
      | omega
      | (dsimp only; omega)
      | fail)

end Go.Proofs.Ytcicmlmfnjkekaa


namespace Go.Proofs.Ytcicmlmfnjkekaa
open Go Pw
set_option maxRecDepth 20000
set_option maxHeartbeats 4000000
set_option synthInstance.maxHeartbeats 400000
set_option synthInstance.maxSize 4000
set_option maxHeartbeats 1000000
theorem end1_spec (p t bx m : Nat) (v0 v2 v3 v4 v5 : Value) (tm : List (Nat × Nat)) (ps : List Nat) (tk : Nat → Tk) (ht : t ∈ ps) :
    Sat Try.prog 39 [.pointer (some ⟨t, 0, none⟩), .pointer (some ⟨bx, 0, none⟩)] [Pw.row 24 bx [.pointer (some ⟨p, 0, none⟩)], Pw.row 63 p [v0, .map (some m), v2, v3, v4, v5], mapP m (.u32, tm), objF tkV 65 ps tk] (fun u L' => u = .int .i64 (0 : Nat) ∧ L' = [Pw.row 24 bx [.pointer (some ⟨p, 0, none⟩)], Pw.row 63 p [v0, .map (some m), v2, v3, v4, v5], mapP m (.u32, delP tm (tk t).id), objF tkV 65 ps tk]) := by
  all_goals
    refine Sat.enter Try.func39 rfl Try.ntmps39 rfl (fun c R => ?_)
    try simp only [List.cons_append, List.nil_append]
    repeat' (first
      | exact ht
      | (exact Fini.of ⟨rfl, rfl⟩ (by repeat first | exact Imp.refl _ | (apply Imp.pull; focus ((repeat first | exact Del.head _ _ | apply Del.tail); done)) | apply Imp.drop))
      | refine T.pl 1 [8] (.p 4 (.p 5 (.d 0 (.p 1 (.d 2 (.d 3 (.d 6 (.d 7 (.n 8 .fin))))))))) ?_
      | refine And.intro (fun hc => ?_) (fun hc => ?_)
      | refine And.intro ?_ ?_
      | intro b
      | refine stp ?_
      | refine TQ.finC ?_
      | refine TQ.finC2 ?_
      | refine TQ.finC3 ?_
      | refine ⟨fun hc => ?_, fun hc => ?_⟩
      | refine Ei.f ?_
      | refine ⟨?_, ?_⟩
      | intro b
      | omega
      | (dsimp only; omega)
      | fail)
instance {L R0 R1 R2 R3 : List Assn} {p t bx m : Nat} {v0 v2 v3 v4 v5 : Value} {tm : List (Nat × Nat)} {ps : List Nat} {tk : Nat → Tk} [h0 : RowDel L bx 24 [.pointer (some ⟨p, 0, none⟩)] R0] [h1 : RowDel R0 p 63 [v0, .map (some m), v2, v3, v4, v5] R1] [h2 : Fam mapP R1 m (.u32, tm) R2] [h4 : ObjAt R2 Tk tkV 65 ps tk R3] : FnR Try.prog 39 [.pointer (some ⟨t, 0, none⟩), .pointer (some ⟨bx, 0, none⟩)] L (fun q => Vc (t ∈ ps) (q (.int .i64 (0 : Nat)) (Pw.row 24 bx [.pointer (some ⟨p, 0, none⟩)] :: Pw.row 63 p [v0, .map (some m), v2, v3, v4, v5] :: mapP m (.u32, delP tm (tk t).id) :: objF tkV 65 ps tk :: R3))) :=
  ⟨fun q h => ⟨_, R3, _, end1_spec p t bx m v0 v2 v3 v4 v5 tm ps tk h.l, .cons h0.h (.cons h1.h (.cons h2.h (.cons h4.h (.nil _)))), fun v L' hv => by rw [hv.1, hv.2]; exact h.r⟩⟩
theorem stops_end (p bx : Nat) (S : Sc) (hS : S.ok) :
    Sat Try.prog 35 [.pointer (some ⟨p, 0, none⟩), .func (.func 39) #[] #[.pointer (some ⟨bx, 0, none⟩)]] [Pw.row 24 bx [.pointer (some ⟨p, 0, none⟩)], scA p S] (fun u L' => u = .int .i64 (S.done.2 : Nat) ∧ L' = [Pw.row 24 bx [.pointer (some ⟨p, 0, none⟩)], scA p S.done.1]) := by
  obtain ⟨pat, tm, rw_, wt, rn, nw, ps, tk⟩ := S
  have hm := hS.map
  refine Sat.openA (.tail (.head _ _)) ?_
  rintro ⟨m, a, k, b, l⟩ -
  have hrl := hS.rl
  have hru := hS.runs
  have hm2 := hS.map
  dsimp only [scL] at *
  rcases rn with _ | t <;> dsimp only [optP] at *
  all_goals
    refine Sat.enter Try.func35 rfl Try.ntmps35 rfl (fun c R => ?_)
    try simp only [List.cons_append, List.nil_append]
    repeat' (first
      | exact hru _ rfl
      | (exact Fini.of ⟨rfl, rfl⟩ (Imp.pull (by first | exact Del.head _ _ | exact Del.tail (Del.head _ _) | exact Del.tail (Del.tail (Del.head _ _)) | exact Del.tail (Del.tail (Del.tail (Del.head _ _))) | exact Del.tail (Del.tail (Del.tail (Del.tail (Del.head _ _)))) | exact Del.tail (Del.tail (Del.tail (Del.tail (Del.tail (Del.head _ _))))) | exact Del.tail (Del.tail (Del.tail (Del.tail (Del.tail (Del.tail (Del.head _ _)))))) | exact Del.tail (Del.tail (Del.tail (Del.tail (Del.tail (Del.tail (Del.tail (Del.head _ _))))))) | exact Del.tail (Del.tail (Del.tail (Del.tail (Del.tail (Del.tail (Del.tail (Del.tail (Del.head _ _))))))))) (by exact (Imp.sc ⟨m, _, _, _, _⟩ (by repeat first | exact Imp.refl _ | (apply Imp.pull; focus ((repeat first | exact Del.head _ _ | apply Del.tail); done)) | apply Imp.drop)))))
      | refine And.intro (fun hc => ?_) (fun hc => ?_)
      | refine And.intro ?_ ?_
      | intro b
      | refine stp ?_
      | refine TQ.finC ?_
      | refine TQ.finC2 ?_
      | refine TQ.finC3 ?_
      | refine ⟨fun hc => ?_, fun hc => ?_⟩
      | refine Ei.f ?_
      | refine ⟨?_, ?_⟩
      | intro b
      | omega
      | (dsimp only; omega)
      | fail)
class ScDel (L : List Assn) (p : Nat) (S : outParam Sc) (R : outParam (List Assn)) : Prop where h : Del (scA p S) L R
instance (priority := 1100) {L : List Assn} {p : Nat} {S : Sc} : ScDel (scA p S :: L) p S L := ⟨.head _ _⟩
instance {A : Assn} {L R : List Assn} {p : Nat} {S : Sc} [k : ScDel L p S R] : ScDel (A :: L) p S (A :: R) := ⟨.tail k.h⟩
instance {L R1 R2 : List Assn} {p bx : Nat} {S : Sc} [h0 : RowDel L bx 24 [.pointer (some ⟨p, 0, none⟩)] R1] [h1 : ScDel R1 p S R2] : FnR Try.prog 35 [.pointer (some ⟨p, 0, none⟩), .func (.func 37) #[] #[.pointer (some ⟨bx, 0, none⟩)]] L (fun q => Vc S.ok (q (.int .i64 (S.yield.2 : Nat)) (Pw.row 24 bx [.pointer (some ⟨p, 0, none⟩)] :: scA p S.yield.1 :: R2))) :=
  ⟨fun q h => ⟨_, R2, _, stops_yield p bx S h.l, .cons h0.h (.cons h1.h (.nil _)), fun v L' hv => by rw [hv.1, hv.2]; exact h.r⟩⟩
instance {L R1 R2 : List Assn} {p bx : Nat} {S : Sc} [h0 : RowDel L bx 24 [.pointer (some ⟨p, 0, none⟩)] R1] [h1 : ScDel R1 p S R2] : FnR Try.prog 35 [.pointer (some ⟨p, 0, none⟩), .func (.func 39) #[] #[.pointer (some ⟨bx, 0, none⟩)]] L (fun q => Vc S.ok (q (.int .i64 (S.done.2 : Nat)) (Pw.row 24 bx [.pointer (some ⟨p, 0, none⟩)] :: scA p S.done.1 :: R2))) :=
  ⟨fun q h => ⟨_, R2, _, stops_end p bx S h.l, .cons h0.h (.cons h1.h (.nil _)), fun v L' hv => by rw [hv.1, hv.2]; exact h.r⟩⟩
instance {L R0 R1 R2 R3 : List Assn} {p bx bu bq u qq : Nat} {x y : Int} {S : Sc} [hx : Nn x u] [hy : Nn y qq] [h0 : RowDel L bu 33 [.int .u64 x] R0] [h1 : RowDel R0 bx 24 [.pointer (some ⟨p, 0, none⟩)] R1] [h2 : RowDel R1 bq 29 [.int .u32 y] R2] [h3 : ScDel R2 p S R3] : FnR Try.prog 35 [.pointer (some ⟨p, 0, none⟩), .func (.func 36) #[] #[.pointer (some ⟨bu, 0, none⟩), .pointer (some ⟨bx, 0, none⟩), .pointer (some ⟨bq, 0, none⟩)]] L (fun q => Vc (S.ok ∧ u < 18446744073709551616) (q (.int .i64 ((S.wait qq u).2 : Nat)) (Pw.row 33 bu [.int .u64 (u : Nat)] :: Pw.row 24 bx [.pointer (some ⟨p, 0, none⟩)] :: Pw.row 29 bq [.int .u32 (qq : Nat)] :: scA p (S.wait qq u).1 :: R3))) :=
  ⟨fun q h => ⟨_, R3, _, stops_wait p bx bu bq u qq S h.l.1 h.l.2, .cons (by have := h0.h; rw [hx.h] at this; exact this) (.cons h1.h (.cons (by have := h2.h; rw [hy.h] at this; exact this) (.cons h3.h (.nil _)))), fun v L' hv => by rw [hv.1, hv.2]; exact h.r⟩⟩
theorem yield_spec (p : Nat) (S : Sc) (hS : S.ok) :
    Sat Try.prog 14 [.pointer (some ⟨p, 0, none⟩)] [scA p S] (fun u L' => u = .int .i64 (S.yield.2 : Nat) ∧ L' = [scA p (S.yield.1)]) := by
  all_goals
    refine Sat.enter Try.func14 rfl Try.ntmps14 rfl (fun c R => ?_)
    try simp only [List.cons_append, List.nil_append]
    repeat' (first
      | exact hS
      | (exact Fini.of ⟨rfl, rfl⟩ (by repeat first | exact Imp.refl _ | (apply Imp.pull; focus ((repeat first | exact Del.head _ _ | apply Del.tail); done)) | apply Imp.drop))
      | refine And.intro (fun hc => ?_) (fun hc => ?_)
      | refine And.intro ?_ ?_
      | intro b
      | refine stp ?_
      | refine TQ.finC ?_
      | refine TQ.finC2 ?_
      | refine TQ.finC3 ?_
      | refine ⟨fun hc => ?_, fun hc => ?_⟩
      | refine Ei.f ?_
      | refine ⟨?_, ?_⟩
      | intro b
      | omega
      | (dsimp only; omega)
      | fail)
theorem end_spec (p : Nat) (S : Sc) (hS : S.ok) :
    Sat Try.prog 17 [.pointer (some ⟨p, 0, none⟩)] [scA p S] (fun u L' => u = .int .i64 (S.done.2 : Nat) ∧ L' = [scA p (S.done.1)]) := by
  all_goals
    refine Sat.enter Try.func17 rfl Try.ntmps17 rfl (fun c R => ?_)
    try simp only [List.cons_append, List.nil_append]
    repeat' (first
      | exact hS
      | (exact Fini.of ⟨rfl, rfl⟩ (by repeat first | exact Imp.refl _ | (apply Imp.pull; focus ((repeat first | exact Del.head _ _ | apply Del.tail); done)) | apply Imp.drop))
      | refine And.intro (fun hc => ?_) (fun hc => ?_)
      | refine And.intro ?_ ?_
      | intro b
      | refine stp ?_
      | refine TQ.finC ?_
      | refine TQ.finC2 ?_
      | refine TQ.finC3 ?_
      | refine ⟨fun hc => ?_, fun hc => ?_⟩
      | refine Ei.f ?_
      | refine ⟨?_, ?_⟩
      | intro b
      | omega
      | (dsimp only; omega)
      | fail)
theorem wait_spec (p qq un : Nat) (S : Sc) (hS : S.ok) (hu : un < 18446744073709551616) :
    Sat Try.prog 13 [.pointer (some ⟨p, 0, none⟩), .int .u32 (qq : Nat), .int .u64 (un : Nat)] [scA p S] (fun u L' => u = .int .i64 ((S.wait qq un).2 : Nat) ∧ L' = [scA p ((S.wait qq un).1)]) := by
  all_goals
    refine Sat.enter Try.func13 rfl Try.ntmps13 rfl (fun c R => ?_)
    try simp only [List.cons_append, List.nil_append]
    repeat' (first
      | (refine Vc.mk ⟨hS, hu⟩ ?_)
      | (exact Fini.of ⟨rfl, rfl⟩ (by repeat first | exact Imp.refl _ | (apply Imp.pull; focus ((repeat first | exact Del.head _ _ | apply Del.tail); done)) | apply Imp.drop))
      | refine And.intro (fun hc => ?_) (fun hc => ?_)
      | refine And.intro ?_ ?_
      | intro b
      | refine stp ?_
      | refine TQ.finC ?_
      | refine TQ.finC2 ?_
      | refine TQ.finC3 ?_
      | refine ⟨fun hc => ?_, fun hc => ?_⟩
      | refine Ei.f ?_
      | refine ⟨?_, ?_⟩
      | intro b
      | omega
      | (dsimp only; omega)
      | fail)

end Go.Proofs.Ytcicmlmfnjkekaa

