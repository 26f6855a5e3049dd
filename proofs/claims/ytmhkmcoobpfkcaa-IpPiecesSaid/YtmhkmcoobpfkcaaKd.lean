/- Lemmas for the proofs of this seat: no statement of the seat is claimed here. -/
import Derived.Test.YtmhkmcoobpfkcaaProg
import Derived.Test.YtmhkmcoobpfkcaaKc
set_option linter.all false

namespace Go.Proofs.Ytmhkmcoobpfkcaa
open Go Pw
set_option maxRecDepth 20000
set_option maxHeartbeats 4000000
set_option synthInstance.maxHeartbeats 400000
set_option synthInstance.maxSize 4000
instance : Und Try.prog 3 (Go.TypeDesc.int (Go.IntKind.i64)) := ⟨Try.underlying3⟩
instance : Sz Try.prog 3 0 := ⟨by kernel_rfl⟩
instance : Pl Try.prog 3 := ⟨by kernel_rfl⟩
instance : Zr Try.prog 3 (.int .i64 0) := ⟨by kernel_rfl⟩
instance : By Try.prog 3 8 := ⟨by kernel_rfl⟩
instance : Und Try.prog 4 (Go.TypeDesc.bool) := ⟨Try.underlying4⟩
instance : Sz Try.prog 4 0 := ⟨by kernel_rfl⟩
instance : Pl Try.prog 4 := ⟨by kernel_rfl⟩
instance : Zr Try.prog 4 (.bool false) := ⟨by kernel_rfl⟩
instance : By Try.prog 4 1 := ⟨by kernel_rfl⟩
instance : Und Try.prog 5 (Go.TypeDesc.int (Go.IntKind.u8)) := ⟨Try.underlying5⟩
instance : Sz Try.prog 5 0 := ⟨by kernel_rfl⟩
instance : Pl Try.prog 5 := ⟨by kernel_rfl⟩
instance : Zr Try.prog 5 (.int .u8 0) := ⟨by kernel_rfl⟩
instance : By Try.prog 5 1 := ⟨by kernel_rfl⟩
instance : Und Try.prog 9 (Go.TypeDesc.string) := ⟨Try.underlying9⟩
instance : Sz Try.prog 9 0 := ⟨by kernel_rfl⟩
instance : Pl Try.prog 9 := ⟨by kernel_rfl⟩
instance : Zr Try.prog 9 (.string ⟨#[]⟩) := ⟨by kernel_rfl⟩
instance : By Try.prog 9 16 := ⟨by kernel_rfl⟩
instance : Und Try.prog 22 (Go.TypeDesc.int (Go.IntKind.u64)) := ⟨Try.underlying22⟩
instance : Sz Try.prog 22 0 := ⟨by kernel_rfl⟩
instance : Pl Try.prog 22 := ⟨by kernel_rfl⟩
instance : Zr Try.prog 22 (.int .u64 0) := ⟨by kernel_rfl⟩
instance : By Try.prog 22 8 := ⟨by kernel_rfl⟩
instance : Und Try.prog 23 (Go.TypeDesc.slice 42) := ⟨Try.underlying23⟩
instance : Sz Try.prog 23 0 := ⟨by kernel_rfl⟩
instance : Pl Try.prog 23 := ⟨by kernel_rfl⟩
instance : Zr Try.prog 23 (.slice none 0 0) := ⟨by kernel_rfl⟩
instance : By Try.prog 23 24 := ⟨by kernel_rfl⟩
instance : Und Try.prog 26 (Go.TypeDesc.pointer 65) := ⟨Try.underlying26⟩
instance : Sz Try.prog 26 0 := ⟨by kernel_rfl⟩
instance : Pl Try.prog 26 := ⟨by kernel_rfl⟩
instance : Zr Try.prog 26 (.pointer none) := ⟨by kernel_rfl⟩
instance : By Try.prog 26 8 := ⟨by kernel_rfl⟩
instance : Und Try.prog 27 (Go.TypeDesc.int (Go.IntKind.i64)) := ⟨Try.underlying27⟩
instance : Sz Try.prog 27 0 := ⟨by kernel_rfl⟩
instance : Pl Try.prog 27 := ⟨by kernel_rfl⟩
instance : Zr Try.prog 27 (.int .i64 0) := ⟨by kernel_rfl⟩
instance : By Try.prog 27 8 := ⟨by kernel_rfl⟩
instance : Und Try.prog 32 (Go.TypeDesc.slice 74) := ⟨Try.underlying32⟩
instance : Sz Try.prog 32 0 := ⟨by kernel_rfl⟩
instance : Pl Try.prog 32 := ⟨by kernel_rfl⟩
instance : Zr Try.prog 32 (.slice none 0 0) := ⟨by kernel_rfl⟩
instance : By Try.prog 32 24 := ⟨by kernel_rfl⟩
instance : Und Try.prog 34 (Go.TypeDesc.struct #[{ name := "Most", type := 3, offset := 0, embedded := false, tag := "", pkgPath := "", byteOffset := 0 }, { name := "Life", type := 22, offset := 1, embedded := false, tag := "", pkgPath := "", byteOffset := 8 }, { name := "S", type := 32, offset := 2, embedded := false, tag := "", pkgPath := "", byteOffset := 16 }]) := ⟨Try.underlying34⟩
instance : Sz Try.prog 34 2 := ⟨by kernel_rfl⟩
instance : Ag Try.prog 34 := ⟨by kernel_rfl⟩
instance : Zr Try.prog 34 (.agg #[.int .i64 0, .int .u64 0, .slice none 0 0]) := ⟨by kernel_rfl⟩
instance : By Try.prog 34 40 := ⟨by kernel_rfl⟩
instance : Pc Try.prog 34 [(0, 1), (1, 1), (2, 1)] := ⟨by kernel_rfl⟩
instance : Und Try.prog 35 (Go.TypeDesc.int (Go.IntKind.u32)) := ⟨Try.underlying35⟩
instance : Sz Try.prog 35 0 := ⟨by kernel_rfl⟩
instance : Pl Try.prog 35 := ⟨by kernel_rfl⟩
instance : Zr Try.prog 35 (.int .u32 0) := ⟨by kernel_rfl⟩
instance : By Try.prog 35 4 := ⟨by kernel_rfl⟩
instance : Und Try.prog 36 (Go.TypeDesc.int (Go.IntKind.u16)) := ⟨Try.underlying36⟩
instance : Sz Try.prog 36 0 := ⟨by kernel_rfl⟩
instance : Pl Try.prog 36 := ⟨by kernel_rfl⟩
instance : Zr Try.prog 36 (.int .u16 0) := ⟨by kernel_rfl⟩
instance : By Try.prog 36 2 := ⟨by kernel_rfl⟩
instance : Und Try.prog 38 (Go.TypeDesc.struct #[{ name := "Src", type := 35, offset := 0, embedded := false, tag := "", pkgPath := "", byteOffset := 0 }, { name := "Dst", type := 35, offset := 1, embedded := false, tag := "", pkgPath := "", byteOffset := 4 }, { name := "Proto", type := 5, offset := 2, embedded := false, tag := "", pkgPath := "", byteOffset := 8 }, { name := "TTL", type := 5, offset := 3, embedded := false, tag := "", pkgPath := "", byteOffset := 9 }, { name := "ID", type := 36, offset := 4, embedded := false, tag := "", pkgPath := "", byteOffset := 10 }, { name := "Stay", type := 4, offset := 5, embedded := false, tag := "", pkgPath := "", byteOffset := 12 }, { name := "More", type := 4, offset := 6, embedded := false, tag := "", pkgPath := "", byteOffset := 13 }, { name := "Off", type := 36, offset := 7, embedded := false, tag := "", pkgPath := "", byteOffset := 14 }, { name := "Data", type := 9, offset := 8, embedded := false, tag := "", pkgPath := "", byteOffset := 16 }]) := ⟨Try.underlying38⟩
instance : Sz Try.prog 38 8 := ⟨by kernel_rfl⟩
instance : Ag Try.prog 38 := ⟨by kernel_rfl⟩
instance : Zr Try.prog 38 (.agg #[.int .u32 0, .int .u32 0, .int .u8 0, .int .u8 0, .int .u16 0, .bool false, .bool false, .int .u16 0, .string ⟨#[]⟩]) := ⟨by kernel_rfl⟩
instance : By Try.prog 38 32 := ⟨by kernel_rfl⟩
instance : Pc Try.prog 38 [(0, 1), (1, 1), (2, 1), (3, 1), (4, 1), (5, 1), (6, 1), (7, 1), (8, 1)] := ⟨by kernel_rfl⟩
instance : Und Try.prog 42 (Go.TypeDesc.struct #[{ name := "P", type := 38, offset := 0, embedded := false, tag := "", pkgPath := "", byteOffset := 0 }, { name := "Now", type := 22, offset := 9, embedded := false, tag := "", pkgPath := "", byteOffset := 32 }]) := ⟨Try.underlying42⟩
instance : Sz Try.prog 42 9 := ⟨by kernel_rfl⟩
instance : Ag Try.prog 42 := ⟨by kernel_rfl⟩
instance : Zr Try.prog 42 (.agg #[.int .u32 0, .int .u32 0, .int .u8 0, .int .u8 0, .int .u16 0, .bool false, .bool false, .int .u16 0, .string ⟨#[]⟩, .int .u64 0]) := ⟨by kernel_rfl⟩
instance : By Try.prog 42 40 := ⟨by kernel_rfl⟩
instance : Pc Try.prog 42 [(0, 9), (9, 1)] := ⟨by kernel_rfl⟩
instance : Und Try.prog 45 (Go.TypeDesc.slice 9) := ⟨Try.underlying45⟩
instance : Sz Try.prog 45 0 := ⟨by kernel_rfl⟩
instance : Pl Try.prog 45 := ⟨by kernel_rfl⟩
instance : Zr Try.prog 45 (.slice none 0 0) := ⟨by kernel_rfl⟩
instance : By Try.prog 45 24 := ⟨by kernel_rfl⟩
instance : Und Try.prog 46 (Go.TypeDesc.slice 5) := ⟨Try.underlying46⟩
instance : Sz Try.prog 46 0 := ⟨by kernel_rfl⟩
instance : Pl Try.prog 46 := ⟨by kernel_rfl⟩
instance : Zr Try.prog 46 (.slice none 0 0) := ⟨by kernel_rfl⟩
instance : By Try.prog 46 24 := ⟨by kernel_rfl⟩
instance : Und Try.prog 47 (Go.TypeDesc.slice 36) := ⟨Try.underlying47⟩
instance : Sz Try.prog 47 0 := ⟨by kernel_rfl⟩
instance : Pl Try.prog 47 := ⟨by kernel_rfl⟩
instance : Zr Try.prog 47 (.slice none 0 0) := ⟨by kernel_rfl⟩
instance : By Try.prog 47 24 := ⟨by kernel_rfl⟩
instance : Und Try.prog 48 (Go.TypeDesc.slice 38) := ⟨Try.underlying48⟩
instance : Sz Try.prog 48 0 := ⟨by kernel_rfl⟩
instance : Pl Try.prog 48 := ⟨by kernel_rfl⟩
instance : Zr Try.prog 48 (.slice none 0 0) := ⟨by kernel_rfl⟩
instance : By Try.prog 48 24 := ⟨by kernel_rfl⟩
instance : Und Try.prog 52 (Go.TypeDesc.slice 4) := ⟨Try.underlying52⟩
instance : Sz Try.prog 52 0 := ⟨by kernel_rfl⟩
instance : Pl Try.prog 52 := ⟨by kernel_rfl⟩
instance : Zr Try.prog 52 (.slice none 0 0) := ⟨by kernel_rfl⟩
instance : By Try.prog 52 24 := ⟨by kernel_rfl⟩
instance : Und Try.prog 63 (Go.TypeDesc.map 67 68) := ⟨Try.underlying63⟩
instance : Sz Try.prog 63 0 := ⟨by kernel_rfl⟩
instance : Pl Try.prog 63 := ⟨by kernel_rfl⟩
instance : Zr Try.prog 63 (.map none) := ⟨by kernel_rfl⟩
instance : By Try.prog 63 8 := ⟨by kernel_rfl⟩
instance : Und Try.prog 65 (Go.TypeDesc.struct #[{ name := "most", type := 3, offset := 0, embedded := false, tag := "", pkgPath := "pharos/ip", byteOffset := 0 }, { name := "life", type := 22, offset := 1, embedded := false, tag := "", pkgPath := "pharos/ip", byteOffset := 8 }, { name := "sets", type := 63, offset := 2, embedded := false, tag := "", pkgPath := "pharos/ip", byteOffset := 16 }]) := ⟨Try.underlying65⟩
instance : Sz Try.prog 65 2 := ⟨by kernel_rfl⟩
instance : Ag Try.prog 65 := ⟨by kernel_rfl⟩
instance : Zr Try.prog 65 (.agg #[.int .i64 0, .int .u64 0, .map none]) := ⟨by kernel_rfl⟩
instance : By Try.prog 65 24 := ⟨by kernel_rfl⟩
instance : Pc Try.prog 65 [(0, 1), (1, 1), (2, 1)] := ⟨by kernel_rfl⟩
instance : Und Try.prog 67 (Go.TypeDesc.struct #[{ name := "src", type := 35, offset := 0, embedded := false, tag := "", pkgPath := "pharos/ip", byteOffset := 0 }, { name := "dst", type := 35, offset := 1, embedded := false, tag := "", pkgPath := "pharos/ip", byteOffset := 4 }, { name := "proto", type := 5, offset := 2, embedded := false, tag := "", pkgPath := "pharos/ip", byteOffset := 8 }, { name := "id", type := 36, offset := 3, embedded := false, tag := "", pkgPath := "pharos/ip", byteOffset := 10 }]) := ⟨Try.underlying67⟩
instance : Sz Try.prog 67 3 := ⟨by kernel_rfl⟩
instance : Ag Try.prog 67 := ⟨by kernel_rfl⟩
instance : Zr Try.prog 67 (.agg #[.int .u32 0, .int .u32 0, .int .u8 0, .int .u16 0]) := ⟨by kernel_rfl⟩
instance : By Try.prog 67 12 := ⟨by kernel_rfl⟩
instance : Pc Try.prog 67 [(0, 1), (1, 1), (2, 1), (3, 1)] := ⟨by kernel_rfl⟩
instance : Und Try.prog 68 (Go.TypeDesc.pointer 70) := ⟨Try.underlying68⟩
instance : Sz Try.prog 68 0 := ⟨by kernel_rfl⟩
instance : Pl Try.prog 68 := ⟨by kernel_rfl⟩
instance : Zr Try.prog 68 (.pointer none) := ⟨by kernel_rfl⟩
instance : By Try.prog 68 8 := ⟨by kernel_rfl⟩
instance : Und Try.prog 70 (Go.TypeDesc.struct #[{ name := "list", type := 48, offset := 0, embedded := false, tag := "", pkgPath := "pharos/ip", byteOffset := 0 }, { name := "until", type := 22, offset := 1, embedded := false, tag := "", pkgPath := "pharos/ip", byteOffset := 24 }]) := ⟨Try.underlying70⟩
instance : Sz Try.prog 70 1 := ⟨by kernel_rfl⟩
instance : Ag Try.prog 70 := ⟨by kernel_rfl⟩
instance : Zr Try.prog 70 (.agg #[.slice none 0 0, .int .u64 0]) := ⟨by kernel_rfl⟩
instance : By Try.prog 70 32 := ⟨by kernel_rfl⟩
instance : Pc Try.prog 70 [(0, 1), (1, 1)] := ⟨by kernel_rfl⟩
instance : Und Try.prog 74 (Go.TypeDesc.struct #[{ name := "L", type := 48, offset := 0, embedded := false, tag := "", pkgPath := "", byteOffset := 0 }, { name := "Until", type := 22, offset := 1, embedded := false, tag := "", pkgPath := "", byteOffset := 24 }]) := ⟨Try.underlying74⟩
instance : Sz Try.prog 74 1 := ⟨by kernel_rfl⟩
instance : Ag Try.prog 74 := ⟨by kernel_rfl⟩
instance : Zr Try.prog 74 (.agg #[.slice none 0 0, .int .u64 0]) := ⟨by kernel_rfl⟩
instance : By Try.prog 74 32 := ⟨by kernel_rfl⟩
instance : Pc Try.prog 74 [(0, 1), (1, 1)] := ⟨by kernel_rfl⟩
instance : Und Try.prog 81 (Go.TypeDesc.int (Go.IntKind.u64)) := ⟨Try.underlying81⟩
instance : Sz Try.prog 81 0 := ⟨by kernel_rfl⟩
instance : Pl Try.prog 81 := ⟨by kernel_rfl⟩
instance : Zr Try.prog 81 (.int .u64 0) := ⟨by kernel_rfl⟩
instance : By Try.prog 81 8 := ⟨by kernel_rfl⟩
instance : Und Try.prog 90 (Go.TypeDesc.pointer 92) := ⟨Try.underlying90⟩
instance : Sz Try.prog 90 0 := ⟨by kernel_rfl⟩
instance : Pl Try.prog 90 := ⟨by kernel_rfl⟩
instance : Zr Try.prog 90 (.pointer none) := ⟨by kernel_rfl⟩
instance : By Try.prog 90 8 := ⟨by kernel_rfl⟩
instance : Und Try.prog 92 (Go.TypeDesc.struct #[{ name := "addr", type := 90, offset := 0, embedded := false, tag := "", pkgPath := "strings", byteOffset := 0 }, { name := "buf", type := 46, offset := 1, embedded := false, tag := "", pkgPath := "strings", byteOffset := 8 }]) := ⟨Try.underlying92⟩
instance : Sz Try.prog 92 1 := ⟨by kernel_rfl⟩
instance : Ag Try.prog 92 := ⟨by kernel_rfl⟩
instance : Zr Try.prog 92 (.agg #[.pointer none, .slice none 0 0]) := ⟨by kernel_rfl⟩
instance : By Try.prog 92 32 := ⟨by kernel_rfl⟩
instance : Pc Try.prog 92 [(0, 1), (1, 1)] := ⟨by kernel_rfl⟩
instance : Und Try.prog 102 (Go.TypeDesc.pointer 5) := ⟨Try.underlying102⟩
instance : Sz Try.prog 102 0 := ⟨by kernel_rfl⟩
instance : Pl Try.prog 102 := ⟨by kernel_rfl⟩
instance : Zr Try.prog 102 (.pointer none) := ⟨by kernel_rfl⟩
instance : By Try.prog 102 8 := ⟨by kernel_rfl⟩
instance : Cal Try.prog 10 := ⟨Try.call10⟩
instance : Cal Try.prog 11 := ⟨Try.call11⟩
instance : Cal Try.prog 12 := ⟨Try.call12⟩
instance : Cal Try.prog 13 := ⟨Try.call13⟩
instance : Cal Try.prog 14 := ⟨Try.call14⟩
instance : Cal Try.prog 15 := ⟨Try.call15⟩
instance : Cal Try.prog 16 := ⟨Try.call16⟩
instance : Cal Try.prog 17 := ⟨Try.call17⟩
instance : Cal Try.prog 18 := ⟨Try.call18⟩
instance : Cal Try.prog 19 := ⟨Try.call19⟩
instance : Cal Try.prog 20 := ⟨Try.call20⟩
instance : Cal Try.prog 21 := ⟨Try.call21⟩
instance : Cal Try.prog 22 := ⟨Try.call22⟩
instance : Cal Try.prog 23 := ⟨Try.call23⟩
instance : Cal Try.prog 24 := ⟨Try.call24⟩
instance : Cal Try.prog 25 := ⟨Try.call25⟩
instance : Cal Try.prog 26 := ⟨Try.call26⟩
instance : Cal Try.prog 27 := ⟨Try.call27⟩
instance : Cal Try.prog 28 := ⟨Try.call28⟩
instance : Cal Try.prog 29 := ⟨Try.call29⟩
instance : Cal Try.prog 30 := ⟨Try.call30⟩
instance : Cal Try.prog 31 := ⟨Try.call31⟩
instance : Cal Try.prog 32 := ⟨Try.call32⟩
instance : Cal Try.prog 33 := ⟨Try.call33⟩
instance : Cal Try.prog 34 := ⟨Try.call34⟩
instance : Cal Try.prog 35 := ⟨Try.call35⟩
instance : Cal Try.prog 36 := ⟨Try.call36⟩
instance : Cal Try.prog 37 := ⟨Try.call37⟩
instance : Cal Try.prog 38 := ⟨Try.call38⟩
instance : Cal Try.prog 39 := ⟨Try.call39⟩
instance : Cal Try.prog 40 := ⟨Try.call40⟩
instance : Cal Try.prog 41 := ⟨Try.call41⟩
instance : Cal Try.prog 42 := ⟨Try.call42⟩
instance : Cal Try.prog 43 := ⟨Try.call43⟩
instance : Cal Try.prog 44 := ⟨Try.call44⟩
instance : Cal Try.prog 45 := ⟨Try.call45⟩
instance : Cal Try.prog 46 := ⟨Try.call46⟩
instance : Cal Try.prog 47 := ⟨Try.call47⟩
instance : Cal Try.prog 48 := ⟨Try.call48⟩
instance : Cal Try.prog 49 := ⟨Try.call49⟩
instance : Cal Try.prog 50 := ⟨Try.call50⟩
instance : Cal Try.prog 51 := ⟨Try.call51⟩
instance : Cal Try.prog 52 := ⟨Try.call52⟩
instance : Cal Try.prog 53 := ⟨Try.call53⟩
instance : Cal Try.prog 54 := ⟨Try.call54⟩
instance : Cal Try.prog 55 := ⟨Try.call55⟩
instance : Cal Try.prog 56 := ⟨Try.call56⟩
instance : Cal Try.prog 57 := ⟨Try.call57⟩
instance : Cal Try.prog 58 := ⟨Try.call58⟩
instance : Cal Try.prog 59 := ⟨Try.call59⟩
instance : Cal Try.prog 60 := ⟨Try.call60⟩
instance : Mixed Try.prog := ⟨by kernel_rfl⟩
theorem mixed : Try.prog.follows .mixedOrders = true := by kernel_rfl

end Go.Proofs.Ytmhkmcoobpfkcaa


namespace Go.Proofs.Ytmhkmcoobpfkcaa
open Go Pw
set_option maxRecDepth 20000
set_option maxHeartbeats 4000000
set_option synthInstance.maxHeartbeats 400000
set_option synthInstance.maxSize 4000
set_option maxHeartbeats 4000000

/-- To stop a walk. -/
structure Hold (p : Prop) : Prop where mk ::
  h : p
theorem take_gt {α : Type} [Inhabited α] {s : List α} {k : Nat} (h : k < s.length) : s.take (k + 1) = s.take k ++ [gt s k] := by
  rw [List.take_add_one, gt_get h]; rfl
theorem drop_gt {α : Type} [Inhabited α] {s : List α} {k : Nat} (h : k < s.length) : s.drop k = gt s k :: s.drop (k + 1) := by
  rw [List.drop_eq_getElem_cons h]
  congr 1
  have := gt_get h
  rw [List.getElem?_eq_getElem h] at this
  exact Option.some.inj this
theorem TQ.atL {r : Rd} {c : Ctx} {L : List Assn} {Q : Exit → Env → Rd → World → Prop} {E : Env} {S : Type} {n : Nat} {sl : S → List (Nat × Value)} {H : S → List Assn} {I : S → Prop} {μ : S → Nat} {s : S} (h : TQ r c L (loopQ r c n sl H I μ s Q) .normal E) : TQ r c L (loopQ r c n sl H I μ s Q) .normal E := h
theorem _root_.Pw.T.cutR {P : Program} {r : Rd} {c : Ctx} {L : List Assn} {Q : Exit → Env → Rd → World → Prop} (id : Nat) {n : Nat} {l0 : List (Nat × Value)} {g0 : Nat → Value} {S : Type} {ops : Array Oper} {dr : Bool} {y : Code} (sl : S → List (Nat × Value)) (H : S → List Assn) (I : S → Prop)
    (h : T P r c L (.region id ops dr) (cutQ r c n sl H I Q) ⟨n, l0, g0⟩) (k : ∀ s g, I s → T P r c (H s) y Q ⟨n, sl s, g⟩) : T P r c L (.seq (.region id ops dr) y) Q ⟨n, l0, g0⟩ := T.cut sl H I h k
theorem _root_.Pw.T.cutC {P : Program} {r : Rd} {c : Ctx} {L : List Assn} {Q : Exit → Env → Rd → World → Prop} (cd : Operand) {n : Nat} {l0 : List (Nat × Value)} {g0 : Nat → Value} {S : Type} {x1 x2 y : Code} (sl : S → List (Nat × Value)) (H : S → List Assn) (I : S → Prop)
    (h : T P r c L (.cond cd x1 x2) (cutQ r c n sl H I Q) ⟨n, l0, g0⟩) (k : ∀ s g, I s → T P r c (H s) y Q ⟨n, sl s, g⟩) : T P r c L (.cond cd x1 x2) (thenQ P r y Q) ⟨n, l0, g0⟩ := by
  unfold T at *
  intro w hw
  refine wpIn_mono (h w hw) ?_
  rintro e a w' ⟨E', r', rfl, hq⟩
  cases e with
  | normal =>
    obtain ⟨rfl, s, en, hh, hI, hw'⟩ := hq
    refine ⟨_, _, Env.acd_congr (E'.act_has (sl s) hh) _, ?_⟩
    rw [en]
    exact k s _ hI w' hw'
  | _ => exact ⟨E', r', rfl, hq⟩
def valS (x : Nat) (c : UInt8) : Nat := (x * 2 ^ 8 % 18446744073709551616) ||| c.toNat
def valE (s : List UInt8) : Nat := s.foldl valS 0
theorem valS_lt (x : Nat) (c : UInt8) : valS x c < 18446744073709551616 :=
  Nat.or_lt_two_pow (n := 64) (Nat.mod_lt _ (by decide)) (Nat.lt_of_lt_of_le c.toNat_lt (by decide))
theorem valE_next {s : List UInt8} {i : Nat} (h : i < s.length) : valE (s.take (i + 1)) = valS (valE (s.take i)) (gt s i) := by
  unfold valE; rw [take_gt h, List.foldl_append]; rfl
theorem valE_lt (s : List UInt8) : valE s < 18446744073709551616 := by
  rcases List.eq_nil_or_concat s with rfl | ⟨l, a, rfl⟩
  · decide
  · unfold valE; rw [List.concat_eq_append, List.foldl_append]; exact valS_lt _ _
theorem valE_0 (s : List UInt8) : valE (s.take 0) = 0 := rfl
theorem valV {s : List UInt8} {i x : Nat} (h : i < s.length) (e : x = (valE (s.take i) * 2 ^ 8 % 18446744073709551616) ||| (gt s i).toNat) : Value.int .u64 (x : Int) = Value.int .u64 (valE (s.take (i + 1)) : Int) := by rw [valE_next h, e]; rfl
theorem val0 (s : List UInt8) : Value.int .u64 0 = Value.int .u64 (valE (s.take 0) : Int) := rfl
def numE (x n : Nat) : List UInt8 := (List.range n).map fun j => UInt8.ofNat (x / 2 ^ (8 * (n - 1 - j)) % 256)
theorem numE_len (x n : Nat) : (numE x n).length = n := by simp [numE]
theorem numE_at {x n j : Nat} (h : j < n) : gt (numE x n) j = UInt8.ofNat (x / 2 ^ (8 * (n - 1 - j)) % 256) := by
  have h1 := gt_get (l := numE x n) (i := j) (by rw [numE_len]; exact h)
  rw [List.getElem?_eq_getElem (by rw [numE_len]; exact h)] at h1
  rw [← Option.some.inj h1]
  simp [numE]
/-- What is there when the last ones are. -/
def numP (x n i : Nat) : List UInt8 := List.replicate (n - i) 0 ++ (numE x n).drop (n - i)
theorem numP_0 (x n : Nat) : numP x n 0 = List.replicate n 0 := by
  unfold numP
  rw [Nat.sub_zero, List.drop_of_length_le (by rw [numE_len]; exact Nat.le_refl _), List.append_nil]
theorem numP_len {x n i : Nat} (h : i ≤ n) : (numP x n i).length = n := by
  unfold numP; rw [List.length_append, List.length_replicate, List.length_drop, numE_len]; omega
theorem numP_n (x n : Nat) : numP x n n = numE x n := by
  unfold numP; rw [Nat.sub_self]; rfl
theorem numP_next {x n i : Nat} (h : i < n) : (numP x n i).set (n - 1 - i) (UInt8.ofNat (x / 2 ^ (8 * i) % 256)) = numP x n (i + 1) := by
  unfold numP
  have e : n - i = (n - (i + 1)) + 1 := by omega
  rw [drop_gt (k := n - (i + 1)) (by rw [numE_len]; omega), ← e, numE_at (by omega), show n - 1 - (n - (i + 1)) = i by omega]
  rw [e, List.replicate_succ', List.append_assoc, List.set_append_right _ _ (by rw [List.length_replicate]; omega), List.length_replicate, show n - 1 - i - (n - (i + 1)) = 0 by omega]
  rfl
theorem rep_byte (n : Nat) : (List.replicate n [Value.int .u8 0]).flatten = (List.replicate n (0 : UInt8)).map byteV := by
  induction n with
  | zero => rfl
  | succ n ih => rw [List.replicate_succ, List.flatten_cons, ih, List.replicate_succ]; rfl
instance {n : Nat} : Inv byteV (.int .u8 ((n % 256 : Nat) : Int)) (UInt8.ofNat (n % 256)) True := ⟨fun _ => by
  have : (UInt8.ofNat (n % 256)).toNat = n % 256 := by rw [UInt8.toNat_ofNat']; omega
  unfold byteV; rw [this]⟩
attribute [local irreducible] valE valS numE numP
theorem value_spec (s : List UInt8) (hs : s.length < 4611686018427387904) :
    Sat Try.prog 38 [str s] [] (fun u L' => u = .int .u64 (valE s : Nat) ∧ L' = []) := by
  all_goals
    refine Sat.enter Try.func38 rfl Try.ntmps38 rfl (fun c R => ?_)
    try simp only [List.cons_append, List.nil_append]
    repeat' (first
      | (refine T.atB 0 ?_; refine T.lpa 0 [(0, _), (5, _)] (0 : Nat) (fun i => [(2, .int .u64 (valE (s.take i) : Nat)), (6, .int .i64 (i : Nat))]) (fun _ => []) (fun i => i ≤ s.length) (fun i => s.length - i) (Nat.zero_le _) ?_ (hsl := ⟨val0 s, rfl, trivial⟩); intro i g hi; have hv := valE_lt (s.take i); have hb := (gt s i).toNat_lt; simp only [List.cons_append, List.nil_append, appR])
      | (refine TQ.atL ?_; refine TQ.rda (i + 1 : Nat) ?_ ?_ rfl ⟨valV (by assumption) rfl, rfl, rfl, rfl, trivial⟩)
      | (refine T.atR 6 ?_; obtain rfl : i = s.length := (by omega); rw [List.take_length])
      | (exact Fini.of ⟨rfl, rfl⟩ (by repeat first | exact Imp.refl _ | (apply Imp.pull; focus ((repeat first | exact Del.head _ _ | apply Del.tail); done)) | apply Imp.drop))
      | refine And.intro (fun hc => ?_) (fun hc => ?_)
      | refine And.intro ?_ ?_
      | intro b
      | refine stp ?_
      | refine TQ.finC ?_
      | refine TQ.finC2 ?_
      | refine TQ.finC3 ?_
      | refine ⟨fun hc => ?_, fun hc => ?_⟩
      | refine Ei.f ?_
      | refine ⟨?_, ?_⟩
      | intro b
      | exact absurd rfl hc
      | exact absurd hc (by decide)
      | omega
      | (dsimp only; omega)
      | fail)
theorem rvalue_spec (s : List UInt8) (hs : s.length < 4611686018427387904) :
    Sat Try.prog 39 [str s] [] (fun u L' => u = .int .u64 (valE s : Nat) ∧ L' = []) := by
  all_goals
    refine Sat.enter Try.func39 rfl Try.ntmps39 rfl (fun c R => ?_)
    try simp only [List.cons_append, List.nil_append]
    repeat' (first
      | (refine T.atB 0 ?_; refine T.lpa 0 [(0, _)] (0 : Nat) (fun i => [(3, .int .u64 (valE (s.take i) : Nat)), (4, .int .i64 (i : Nat))]) (fun _ => []) (fun i => i ≤ s.length) (fun i => s.length - i) (Nat.zero_le _) ?_ (hsl := ⟨val0 s, rfl, trivial⟩); intro i g hi; have hv := valE_lt (s.take i); have hb := (gt s i).toNat_lt; simp only [List.cons_append, List.nil_append, appR])
      | (refine TQ.atL ?_; refine TQ.rda (i + 1 : Nat) ?_ ?_ rfl ⟨valV (by assumption) rfl, rfl, rfl, trivial⟩)
      | (refine T.atR 6 ?_; obtain rfl : i = s.length := (by omega); rw [List.take_length])
      | (exact Fini.of ⟨rfl, rfl⟩ (by repeat first | exact Imp.refl _ | (apply Imp.pull; focus ((repeat first | exact Del.head _ _ | apply Del.tail); done)) | apply Imp.drop))
      | refine And.intro (fun hc => ?_) (fun hc => ?_)
      | refine And.intro ?_ ?_
      | intro b
      | refine stp ?_
      | refine TQ.finC ?_
      | refine TQ.finC2 ?_
      | refine TQ.finC3 ?_
      | refine ⟨fun hc => ?_, fun hc => ?_⟩
      | refine Ei.f ?_
      | refine ⟨?_, ?_⟩
      | intro b
      | exact absurd rfl hc
      | exact absurd hc (by decide)
      | omega
      | (dsimp only; omega)
      | fail)
theorem number_spec (x n : Nat) (hx : x < 18446744073709551616) (h0 : 0 < n) (hn : n ≤ 8) :
    Sat Try.prog 36 [.int .u64 (x : Nat), .int .i64 (n : Nat)] [] (fun u L' => u = str (numE x n) ∧ L' = []) := by
  all_goals
    refine Sat.enter Try.func36 rfl Try.ntmps36 rfl (fun c R => ?_)
    try simp only [List.cons_append, List.nil_append]
    repeat' (first
      | (refine T.atB 0 ?_; obtain ⟨b5, hb5⟩ : ∃ x, x = b := ⟨_, rfl⟩; subst hb5; rw [← numP_0 x n]; refine T.lpa 0 [(0, _), (1, _), (5, _), (9, _)] (0 : Nat) (fun i => [(10, .int .i64 (i : Nat))]) (fun i => [Pw.sl 5 (0 + 1) (.slice (some ⟨b5, 0, none⟩) n n) n ((numP x n i).map byteV)]) (fun i => i ≤ n) (fun i => n - i) (Nat.zero_le _) ?_; intro i g hi; have hl := numP_len (x := x) hi; simp only [List.cons_append, List.nil_append, appR])
      | (refine TQ.atL ?_; rw [numP_next (by omega)]; refine TQ.rda (i + 1 : Nat) ?_ ?_)
      | (refine T.atR 7 ?_; obtain rfl : i = n := (by omega); rw [numP_n])
      | (exact Fini.of ⟨rfl, rfl⟩ (by repeat first | exact Imp.refl _ | (apply Imp.pull; focus ((repeat first | exact Del.head _ _ | apply Del.tail); done)) | apply Imp.drop))
      | refine And.intro (fun hc => ?_) (fun hc => ?_)
      | refine And.intro ?_ ?_
      | intro b
      | refine stp ?_
      | refine TQ.finC ?_
      | refine TQ.finC2 ?_
      | refine TQ.finC3 ?_
      | refine ⟨fun hc => ?_, fun hc => ?_⟩
      | refine Ei.f ?_
      | refine ⟨?_, ?_⟩
      | intro b
      | exact absurd rfl hc
      | exact absurd hc (by decide)
      | omega
      | (dsimp only; omega)
      | fail)

end Go.Proofs.Ytmhkmcoobpfkcaa


namespace Go.Proofs.Ytmhkmcoobpfkcaa
open Go Pw
set_option maxRecDepth 20000
set_option maxHeartbeats 4000000
set_option synthInstance.maxHeartbeats 400000
set_option synthInstance.maxSize 4000
set_option maxHeartbeats 4000000

def foldE (n : Nat) : Nat := if n < 65536 then n else foldE (n % 65536 + n / 65536)
termination_by n
decreasing_by omega
theorem foldE_small {n : Nat} (h : n < 65536) : foldE n = n := by rw [foldE, if_pos h]
theorem foldE_big {n : Nat} (h : ¬ n < 65536) : foldE n = foldE (n % 65536 + n / 65536) := by rw [foldE, if_neg h]
theorem foldE_lt (n : Nat) : foldE n < 65536 := by
  induction n using Nat.strongRecOn with
  | _ n ih =>
    by_cases h : n < 65536
    · rw [foldE_small h]; exact h
    · rw [foldE_big h]; exact ih _ (by omega)
def sumI (s : List UInt8) : Nat → Nat
  | 0 => 0
  | i + 1 => sumI s i + (gt s i).toNat * 2 ^ (8 - 8 * (i % 2)) % 18446744073709551616
theorem sumI_term (c : UInt8) (i : Nat) : c.toNat * 2 ^ (8 - 8 * (i % 2)) % 18446744073709551616 = if i % 2 = 0 then 256 * c.toNat else c.toNat := by
  have hc := c.toNat_lt
  rcases Nat.mod_two_eq_zero_or_one i with h | h
  · rw [h, if_pos rfl, show 2 ^ (8 - 8 * 0) = 256 from rfl]; omega
  · rw [h, if_neg (by omega), show 2 ^ (8 - 8 * 1) = 1 from rfl]; omega
theorem sumI_le (s : List UInt8) : ∀ i, sumI s i ≤ 65280 * i
  | 0 => Nat.le_refl _
  | i + 1 => by
    have h1 := sumI_le s i
    have h2 : sumI s (i + 1) = sumI s i + (gt s i).toNat * 2 ^ (8 - 8 * (i % 2)) % 18446744073709551616 := rfl
    rw [h2, sumI_term]
    have hc := (gt s i).toNat_lt
    split <;> omega
theorem sum0 (s : List UInt8) : Value.int .u64 0 = Value.int .u64 (sumI s 0 : Int) := rfl
theorem sum0i (s : List UInt8) : Value.int .i64 0 = Value.int .i64 (sumI s 0 : Int) := rfl
theorem sumV {s : List UInt8} {i x : Nat} (e : x = sumI s i + (gt s i).toNat * 2 ^ (8 - 8 * (i % 2)) % 18446744073709551616) : Value.int .u64 (x : Int) = Value.int .u64 (sumI s (i + 1) : Int) := by rw [e]; rfl
theorem sumVi {s : List UInt8} {i x : Nat} (e : x = sumI s i + (if i % 2 = 0 then 256 * (gt s i).toNat else (gt s i).toNat)) : Value.int .i64 (x : Int) = Value.int .i64 (sumI s (i + 1) : Int) := by rw [e, ← sumI_term]; rfl
def sumE (s : List UInt8) : Nat := 65535 - foldE (sumI s s.length)
theorem sumE_lt (s : List UInt8) : sumE s < 65536 := by unfold sumE; omega
theorem and16 (n : Nat) : n &&& 65535 = n % 65536 := Nat.and_two_pow_sub_one_eq_mod n 16
theorem cpl16 {n : Nat} (h : n < 65536) : IntKind.u16.wrap (((BitVec.ofInt IntKind.u16.bits IntKind.u16.max ^^^ BitVec.ofInt IntKind.u16.bits (n : Int)).toNat : Nat) : Int) = ((65535 - n : Nat) : Int) := by
  have e1 : (BitVec.ofInt IntKind.u16.bits IntKind.u16.max ^^^ BitVec.ofInt IntKind.u16.bits (n : Int)).toNat = 65535 - n := by
    show (BitVec.ofInt 16 65535 ^^^ BitVec.ofInt 16 (n : Int)).toNat = 65535 - n
    rw [show BitVec.ofInt 16 65535 = BitVec.allOnes 16 by decide, BitVec.allOnes_xor, BitVec.toNat_not, BitVec.toNat_ofInt]
    omega
  rw [e1]
  exact wrap_nat (by simp [IntKind.lim, IntKind.signed, IntKind.bits]; omega)
instance {P : Program} {t : TypeId} {x : Int} {n : Nat} [hx : Nn x n] : Pu P (.un .xor t (.int .u16 x)) (fun q => Vc (n < 65536) (q (.int .u16 ((65535 - n : Nat) : Int)))) := ⟨fun E d op ty pos af g hr k hk => by
  cases hr with
  | un h =>
    rw [hx.h] at h
    have hw := cpl16 hk.l
    exact ⟨_, by unfold DP; exact ⟨fun _ => by simp, fun w => by simp only [execOp, h, Op.unary, Op.intBits]; simp [IntKind.signed] at hw ⊢; simp [hw]⟩, hk.r⟩⟩
theorem eqI {a b : Int} (h : a = b) : Value.int .i64 a = Value.int .i64 b := by rw [h]
theorem eqU {a b : Nat} (h : a = b) : Value.int .u64 (a : Int) = Value.int .u64 (b : Int) := by rw [h]
theorem eqH {a b : Nat} (h : a = b) : Value.int .u16 (a : Int) = Value.int .u16 (b : Int) := by rw [h]
attribute [local irreducible] valE valS numE numP sumI
theorem rnumber_spec (x n : Nat) (hx : x < 18446744073709551616) (h0 : 0 < n) (hn : n ≤ 8) :
    Sat Try.prog 37 [.int .u64 (x : Nat), .int .i64 (n : Nat)] [] (fun u L' => u = str (numE x n) ∧ L' = []) := by
  all_goals
    refine Sat.enter Try.func37 rfl Try.ntmps37 rfl (fun c R => ?_)
    try simp only [List.cons_append, List.nil_append]
    repeat' (first
      | (refine T.atB 0 ?_; obtain ⟨b5, hb5⟩ : ∃ x, x = b := ⟨_, rfl⟩; subst hb5; rw [← numP_0 x n]; refine T.lpa 0 [(1, _), (5, _)] (0 : Nat) (fun j => [(6, .int .i64 ((n : Int) - 1 - (j : Int))), (0, .int .u64 (x / 2 ^ (8 * j) : Nat))]) (fun j => [Pw.sl 5 (0 + 1) (.slice (some ⟨b5, 0, none⟩) n n) n ((numP x n j).map byteV)]) (fun j => j ≤ n) (fun j => n - j) (Nat.zero_le _) ?_ (hsl := ⟨eqI (by omega), eqU (by simp), trivial⟩); intro j g hj; have hl := numP_len (x := x) hj; have hxj : x / 2 ^ (8 * j) < 18446744073709551616 := Nat.lt_of_le_of_lt (Nat.div_le_self _ _) hx; simp only [List.cons_append, List.nil_append, appR]; (rcases Nat.lt_or_ge j n with hlt | hge) <;> first | rw [show ((n : Int) - 1 - (j : Int)) = ((n - 1 - j : Nat) : Int) by omega] | rw [show ((n : Int) - 1 - (j : Int)) = -1 by omega])
      | (refine TQ.atL ?_; rw [numP_next (by omega)]; refine TQ.rda (j + 1 : Nat) ?_ ?_ rfl ⟨eqI (by omega), eqU (by rw [Nat.div_div_eq_div_mul, ← Nat.pow_add, show 8 * j + 8 = 8 * (j + 1) by omega]), rfl, rfl, trivial⟩)
      | (refine T.atR 7 ?_; obtain rfl : j = n := (by omega); rw [numP_n])
      | (exact Fini.of ⟨rfl, rfl⟩ (by repeat first | exact Imp.refl _ | (apply Imp.pull; focus ((repeat first | exact Del.head _ _ | apply Del.tail); done)) | apply Imp.drop))
      | refine And.intro (fun hc => ?_) (fun hc => ?_)
      | refine And.intro ?_ ?_
      | intro b
      | refine stp ?_
      | refine TQ.finC ?_
      | refine TQ.finC2 ?_
      | refine TQ.finC3 ?_
      | refine ⟨fun hc => ?_, fun hc => ?_⟩
      | refine Ei.f ?_
      | refine ⟨?_, ?_⟩
      | intro b
      | exact absurd rfl hc
      | exact absurd hc (by decide)
      | exact absurd rfl hc
      | exact absurd hc (by decide)
      | omega
      | (dsimp only; omega)
      | (simp only [show IntKind.i64.lim = 9223372036854775808 from rfl]; omega)
      | fail)
theorem sum_spec (s : List UInt8) (hs : s.length < 1099511627776) :
    Sat Try.prog 25 [str s] [] (fun u L' => u = .int .u16 (sumE s : Nat) ∧ L' = []) := by
  all_goals
    refine Sat.enter Try.func25 rfl Try.ntmps25 rfl (fun c R => ?_)
    try simp only [List.cons_append, List.nil_append]
    repeat' (first
      | (refine T.atB 0 ?_; refine T.lpa 0 [(0, _), (6, _)] (0 : Nat) (fun i => [(3, .int .u64 (sumI s i : Nat)), (7, .int .i64 (i : Nat))]) (fun _ => []) (fun i => i ≤ s.length) (fun i => s.length - i) (Nat.zero_le _) ?_ (hsl := ⟨sum0 s, rfl, trivial⟩); intro i g hi; have hv := sumI_le s i; have hb := (gt s i).toNat_lt; have hm := Nat.mod_lt i (show 0 < 2 by decide); have ht : (gt s i).toNat * 2 ^ (8 - 8 * (i % 2)) % 18446744073709551616 ≤ 65280 := (by rw [sumI_term]; split <;> omega); simp only [List.cons_append, List.nil_append, appR])
      | (refine T.atB 2 ?_; obtain rfl : i = s.length := (by omega); refine T.lpa 2 [] (sumI s s.length : Nat) (fun n => [(3, .int .u64 (n : Nat))]) (fun _ => []) (fun n => n < 18446744073709551616 ∧ foldE n = foldE (sumI s s.length)) (fun n => n) ⟨by omega, rfl⟩ ?_; rintro n g ⟨hn, hf⟩; have han := and16 n; simp only [List.cons_append, List.nil_append, appR])
      | (refine TQ.atL ?_; refine TQ.rda (i + 1 : Nat) ?_ ?_ rfl ⟨sumV rfl, rfl, rfl, rfl, trivial⟩)
      | (refine TQ.atL ?_; rw [and16]; refine TQ.rda (n % 65536 + n / 2 ^ 16 : Nat) ⟨by omega, (foldE_big (by omega)).symm.trans hf⟩ ?_)
      | (exact Fini.of ⟨eqH (by unfold sumE; rw [← hf, foldE_small (by omega)]), rfl⟩ (by repeat first | exact Imp.refl _ | (apply Imp.pull; focus ((repeat first | exact Del.head _ _ | apply Del.tail); done)) | apply Imp.drop))
      | refine And.intro (fun hc => ?_) (fun hc => ?_)
      | refine And.intro ?_ ?_
      | intro b
      | refine stp ?_
      | refine TQ.finC ?_
      | refine TQ.finC2 ?_
      | refine TQ.finC3 ?_
      | refine ⟨fun hc => ?_, fun hc => ?_⟩
      | refine Ei.f ?_
      | refine ⟨?_, ?_⟩
      | intro b
      | exact absurd rfl hc
      | exact absurd hc (by decide)
      | exact absurd rfl hc
      | exact absurd hc (by decide)
      | omega
      | (dsimp only; omega)
      | (simp only [show IntKind.i64.lim = 9223372036854775808 from rfl]; omega)
      | fail)
theorem rsum_spec (s : List UInt8) (hs : s.length < 1099511627776) :
    Sat Try.prog 26 [str s] [] (fun u L' => u = .int .u16 (sumE s : Nat) ∧ L' = []) := by
  all_goals
    refine Sat.enter Try.func26 rfl Try.ntmps26 rfl (fun c R => ?_)
    try simp only [List.cons_append, List.nil_append]
    repeat' (first
      | (refine T.atB 0 ?_; refine T.lpa 0 [(0, _)] (0 : Nat) (fun i => [(3, .int .i64 (sumI s i : Nat)), (4, .int .i64 (i : Nat))]) (fun _ => []) (fun i => i ≤ s.length) (fun i => s.length - i) (Nat.zero_le _) ?_ (hsl := ⟨sum0i s, rfl, trivial⟩); intro i g hi; have hv := sumI_le s i; have hb := (gt s i).toNat_lt; have hm := Nat.mod_lt i (show 0 < 2 by decide); simp only [List.cons_append, List.nil_append, appR])
      | (refine T.atB 2 ?_; obtain rfl : i = s.length := (by omega); refine T.lpa 2 [] (sumI s s.length : Nat) (fun n => [(3, .int .i64 (n : Nat))]) (fun _ => []) (fun n => n < 9223372036854775808 ∧ foldE n = foldE (sumI s s.length)) (fun n => n) ⟨by omega, rfl⟩ ?_; rintro n g ⟨hn, hf⟩; simp only [List.cons_append, List.nil_append, appR])
      | (refine TQ.atL ?_; refine TQ.rda (i + 1 : Nat) ?_ ?_ rfl ⟨sumVi (by first | rw [if_pos (by assumption)] | rw [if_neg (by assumption)]), rfl, rfl, trivial⟩)
      | (refine TQ.atL ?_; refine TQ.rda (n % 65536 + n / 65536 : Nat) ⟨by omega, (foldE_big (by omega)).symm.trans hf⟩ ?_)
      | (exact Fini.of ⟨eqH (by unfold sumE; rw [← hf, foldE_small (by omega)]), rfl⟩ (by repeat first | exact Imp.refl _ | (apply Imp.pull; focus ((repeat first | exact Del.head _ _ | apply Del.tail); done)) | apply Imp.drop))
      | refine And.intro (fun hc => ?_) (fun hc => ?_)
      | refine And.intro ?_ ?_
      | intro b
      | refine stp ?_
      | refine TQ.finC ?_
      | refine TQ.finC2 ?_
      | refine TQ.finC3 ?_
      | refine ⟨fun hc => ?_, fun hc => ?_⟩
      | refine Ei.f ?_
      | refine ⟨?_, ?_⟩
      | intro b
      | exact absurd rfl hc
      | exact absurd hc (by decide)
      | exact absurd rfl hc
      | exact absurd hc (by decide)
      | omega
      | (dsimp only; omega)
      | (simp only [show IntKind.i64.lim = 9223372036854775808 from rfl]; omega)
      | fail)
instance {L : List Assn} {s : List UInt8} : FnR Try.prog 38 [str s] L (fun kk => Vc (s.length < 4611686018427387904) (kk (.int .u64 (valE s : Nat)) L)) := ⟨fun kk h => ⟨[], L, _, value_spec s h.l, .nil _, fun v L' hq => by rw [hq.1, hq.2]; exact h.r⟩⟩
instance {L : List Assn} {s : List UInt8} : FnR Try.prog 39 [str s] L (fun kk => Vc (s.length < 4611686018427387904) (kk (.int .u64 (valE s : Nat)) L)) := ⟨fun kk h => ⟨[], L, _, rvalue_spec s h.l, .nil _, fun v L' hq => by rw [hq.1, hq.2]; exact h.r⟩⟩
instance {L : List Assn} {x y : Int} {a n : Nat} [hx : Nn x a] [hy : Nn y n] : FnR Try.prog 36 [.int .u64 x, .int .i64 y] L (fun kk => Vc (a < 18446744073709551616 ∧ 0 < n ∧ n ≤ 8) (kk (str (numE a n)) L)) := ⟨fun kk h => ⟨[], L, _, by rw [hx.h, hy.h]; exact number_spec a n h.l.1 h.l.2.1 h.l.2.2, .nil _, fun v L' hq => by rw [hq.1, hq.2]; exact h.r⟩⟩
instance {L : List Assn} {x y : Int} {a n : Nat} [hx : Nn x a] [hy : Nn y n] : FnR Try.prog 37 [.int .u64 x, .int .i64 y] L (fun kk => Vc (a < 18446744073709551616 ∧ 0 < n ∧ n ≤ 8) (kk (str (numE a n)) L)) := ⟨fun kk h => ⟨[], L, _, by rw [hx.h, hy.h]; exact rnumber_spec a n h.l.1 h.l.2.1 h.l.2.2, .nil _, fun v L' hq => by rw [hq.1, hq.2]; exact h.r⟩⟩
instance {L : List Assn} {s : List UInt8} : FnR Try.prog 25 [str s] L (fun kk => Vc (s.length < 1099511627776) (kk (.int .u16 (sumE s : Nat)) L)) := ⟨fun kk h => ⟨[], L, _, sum_spec s h.l, .nil _, fun v L' hq => by rw [hq.1, hq.2]; exact h.r⟩⟩
instance {L : List Assn} {s : List UInt8} : FnR Try.prog 26 [str s] L (fun kk => Vc (s.length < 1099511627776) (kk (.int .u16 (sumE s : Nat)) L)) := ⟨fun kk h => ⟨[], L, _, rsum_spec s h.l, .nil _, fun v L' hq => by rw [hq.1, hq.2]; exact h.r⟩⟩

end Go.Proofs.Ytmhkmcoobpfkcaa

