/- Lemmas for the proofs of this seat: no statement of the seat is claimed here. -/
import Derived.Test.YtcmafjngfcablaaProg
import Derived.Test.YtcmafjngfcablaaKc
import Derived.Test.YtcmafjngfcablaaKh
import Derived.Test.YtcmafjngfcablaaKd
set_option linter.all false

namespace Go.Proofs.Ytcmafjngfcablaa
open Go Pw
set_option maxRecDepth 20000
set_option maxHeartbeats 4000000
set_option synthInstance.maxHeartbeats 400000
set_option synthInstance.maxSize 4000
instance : Und Try.prog 3 (Go.TypeDesc.int (Go.IntKind.i64)) := ⟨Try.underlying3⟩
instance : Sz Try.prog 3 0 := ⟨by kernel_rfl⟩
instance : Pl Try.prog 3 := ⟨by kernel_rfl⟩
instance : Zr Try.prog 3 (.int .i64 0) := ⟨by kernel_rfl⟩
instance : By Try.prog 3 8 := ⟨by kernel_rfl⟩
instance : Und Try.prog 4 (Go.TypeDesc.bool) := ⟨Try.underlying4⟩
instance : Sz Try.prog 4 0 := ⟨by kernel_rfl⟩
instance : Pl Try.prog 4 := ⟨by kernel_rfl⟩
instance : Zr Try.prog 4 (.bool false) := ⟨by kernel_rfl⟩
instance : By Try.prog 4 1 := ⟨by kernel_rfl⟩
instance : Und Try.prog 5 (Go.TypeDesc.int (Go.IntKind.u8)) := ⟨Try.underlying5⟩
instance : Sz Try.prog 5 0 := ⟨by kernel_rfl⟩
instance : Pl Try.prog 5 := ⟨by kernel_rfl⟩
instance : Zr Try.prog 5 (.int .u8 0) := ⟨by kernel_rfl⟩
instance : By Try.prog 5 1 := ⟨by kernel_rfl⟩
instance : Und Try.prog 9 (Go.TypeDesc.string) := ⟨Try.underlying9⟩
instance : Sz Try.prog 9 0 := ⟨by kernel_rfl⟩
instance : Pl Try.prog 9 := ⟨by kernel_rfl⟩
instance : Zr Try.prog 9 (.string ⟨#[]⟩) := ⟨by kernel_rfl⟩
instance : By Try.prog 9 16 := ⟨by kernel_rfl⟩
instance : Und Try.prog 22 (Go.TypeDesc.slice 5) := ⟨Try.underlying22⟩
instance : Sz Try.prog 22 0 := ⟨by kernel_rfl⟩
instance : Pl Try.prog 22 := ⟨by kernel_rfl⟩
instance : Zr Try.prog 22 (.slice none 0 0) := ⟨by kernel_rfl⟩
instance : By Try.prog 22 24 := ⟨by kernel_rfl⟩
instance : Und Try.prog 24 (Go.TypeDesc.pointer 66) := ⟨Try.underlying24⟩
instance : Sz Try.prog 24 0 := ⟨by kernel_rfl⟩
instance : Pl Try.prog 24 := ⟨by kernel_rfl⟩
instance : Zr Try.prog 24 (.pointer none) := ⟨by kernel_rfl⟩
instance : By Try.prog 24 8 := ⟨by kernel_rfl⟩
instance : Und Try.prog 25 (Go.TypeDesc.int (Go.IntKind.i64)) := ⟨Try.underlying25⟩
instance : Sz Try.prog 25 0 := ⟨by kernel_rfl⟩
instance : Pl Try.prog 25 := ⟨by kernel_rfl⟩
instance : Zr Try.prog 25 (.int .i64 0) := ⟨by kernel_rfl⟩
instance : By Try.prog 25 8 := ⟨by kernel_rfl⟩
instance : Und Try.prog 28 (Go.TypeDesc.pointer 70) := ⟨Try.underlying28⟩
instance : Sz Try.prog 28 0 := ⟨by kernel_rfl⟩
instance : Pl Try.prog 28 := ⟨by kernel_rfl⟩
instance : Zr Try.prog 28 (.pointer none) := ⟨by kernel_rfl⟩
instance : By Try.prog 28 8 := ⟨by kernel_rfl⟩
instance : Und Try.prog 31 (Go.TypeDesc.int (Go.IntKind.u32)) := ⟨Try.underlying31⟩
instance : Sz Try.prog 31 0 := ⟨by kernel_rfl⟩
instance : Pl Try.prog 31 := ⟨by kernel_rfl⟩
instance : Zr Try.prog 31 (.int .u32 0) := ⟨by kernel_rfl⟩
instance : By Try.prog 31 4 := ⟨by kernel_rfl⟩
instance : Und Try.prog 32 (Go.TypeDesc.int (Go.IntKind.u16)) := ⟨Try.underlying32⟩
instance : Sz Try.prog 32 0 := ⟨by kernel_rfl⟩
instance : Pl Try.prog 32 := ⟨by kernel_rfl⟩
instance : Zr Try.prog 32 (.int .u16 0) := ⟨by kernel_rfl⟩
instance : By Try.prog 32 2 := ⟨by kernel_rfl⟩
instance : Und Try.prog 33 (Go.TypeDesc.slice 32) := ⟨Try.underlying33⟩
instance : Sz Try.prog 33 0 := ⟨by kernel_rfl⟩
instance : Pl Try.prog 33 := ⟨by kernel_rfl⟩
instance : Zr Try.prog 33 (.slice none 0 0) := ⟨by kernel_rfl⟩
instance : By Try.prog 33 24 := ⟨by kernel_rfl⟩
instance : Und Try.prog 37 (Go.TypeDesc.struct #[{ name := "At", type := 31, offset := 0, embedded := false, tag := "", pkgPath := "", byteOffset := 0 }, { name := "Len", type := 31, offset := 1, embedded := false, tag := "", pkgPath := "", byteOffset := 4 }, { name := "In", type := 4, offset := 2, embedded := false, tag := "", pkgPath := "", byteOffset := 8 }]) := ⟨Try.underlying37⟩
instance : Sz Try.prog 37 2 := ⟨by kernel_rfl⟩
instance : Ag Try.prog 37 := ⟨by kernel_rfl⟩
instance : Zr Try.prog 37 (.agg #[.int .u32 0, .int .u32 0, .bool false]) := ⟨by kernel_rfl⟩
instance : By Try.prog 37 12 := ⟨by kernel_rfl⟩
instance : Pc Try.prog 37 [(0, 1), (1, 1), (2, 1)] := ⟨by kernel_rfl⟩
instance : Und Try.prog 38 (Go.TypeDesc.slice 37) := ⟨Try.underlying38⟩
instance : Sz Try.prog 38 0 := ⟨by kernel_rfl⟩
instance : Pl Try.prog 38 := ⟨by kernel_rfl⟩
instance : Zr Try.prog 38 (.slice none 0 0) := ⟨by kernel_rfl⟩
instance : By Try.prog 38 24 := ⟨by kernel_rfl⟩
instance : Und Try.prog 42 (Go.TypeDesc.int (Go.IntKind.u64)) := ⟨Try.underlying42⟩
instance : Sz Try.prog 42 0 := ⟨by kernel_rfl⟩
instance : Pl Try.prog 42 := ⟨by kernel_rfl⟩
instance : Zr Try.prog 42 (.int .u64 0) := ⟨by kernel_rfl⟩
instance : By Try.prog 42 8 := ⟨by kernel_rfl⟩
instance : Und Try.prog 44 (Go.TypeDesc.struct #[{ name := "Head", type := 32, offset := 0, embedded := false, tag := "", pkgPath := "", byteOffset := 0 }, { name := "Len", type := 31, offset := 1, embedded := false, tag := "", pkgPath := "", byteOffset := 4 }]) := ⟨Try.underlying44⟩
instance : Sz Try.prog 44 1 := ⟨by kernel_rfl⟩
instance : Ag Try.prog 44 := ⟨by kernel_rfl⟩
instance : Zr Try.prog 44 (.agg #[.int .u16 0, .int .u32 0]) := ⟨by kernel_rfl⟩
instance : By Try.prog 44 8 := ⟨by kernel_rfl⟩
instance : Pc Try.prog 44 [(0, 1), (1, 1)] := ⟨by kernel_rfl⟩
instance : Und Try.prog 52 (Go.TypeDesc.slice 55) := ⟨Try.underlying52⟩
instance : Sz Try.prog 52 0 := ⟨by kernel_rfl⟩
instance : Pl Try.prog 52 := ⟨by kernel_rfl⟩
instance : Zr Try.prog 52 (.slice none 0 0) := ⟨by kernel_rfl⟩
instance : By Try.prog 52 24 := ⟨by kernel_rfl⟩
instance : Und Try.prog 55 (Go.TypeDesc.struct #[{ name := "Do", type := 3, offset := 0, embedded := false, tag := "", pkgPath := "", byteOffset := 0 }, { name := "L", type := 38, offset := 1, embedded := false, tag := "", pkgPath := "", byteOffset := 8 }, { name := "At", type := 31, offset := 2, embedded := false, tag := "", pkgPath := "", byteOffset := 32 }, { name := "S", type := 9, offset := 3, embedded := false, tag := "", pkgPath := "", byteOffset := 40 }, { name := "N", type := 5, offset := 4, embedded := false, tag := "", pkgPath := "", byteOffset := 56 }, { name := "X", type := 31, offset := 5, embedded := false, tag := "", pkgPath := "", byteOffset := 60 }]) := ⟨Try.underlying55⟩
instance : Sz Try.prog 55 5 := ⟨by kernel_rfl⟩
instance : Ag Try.prog 55 := ⟨by kernel_rfl⟩
instance : Zr Try.prog 55 (.agg #[.int .i64 0, .slice none 0 0, .int .u32 0, .string ⟨#[]⟩, .int .u8 0, .int .u32 0]) := ⟨by kernel_rfl⟩
instance : By Try.prog 55 64 := ⟨by kernel_rfl⟩
instance : Pc Try.prog 55 [(0, 1), (1, 1), (2, 1), (3, 1), (4, 1), (5, 1)] := ⟨by kernel_rfl⟩
instance : Und Try.prog 60 (Go.TypeDesc.slice 73) := ⟨Try.underlying60⟩
instance : Sz Try.prog 60 0 := ⟨by kernel_rfl⟩
instance : Pl Try.prog 60 := ⟨by kernel_rfl⟩
instance : Zr Try.prog 60 (.slice none 0 0) := ⟨by kernel_rfl⟩
instance : By Try.prog 60 24 := ⟨by kernel_rfl⟩
instance : Und Try.prog 66 (Go.TypeDesc.struct #[{ name := "bytes", type := 22, offset := 0, embedded := false, tag := "", pkgPath := "pharos/mem", byteOffset := 0 }, { name := "lent", type := 60, offset := 1, embedded := false, tag := "", pkgPath := "pharos/mem", byteOffset := 24 }]) := ⟨Try.underlying66⟩
instance : Sz Try.prog 66 1 := ⟨by kernel_rfl⟩
instance : Ag Try.prog 66 := ⟨by kernel_rfl⟩
instance : Zr Try.prog 66 (.agg #[.slice none 0 0, .slice none 0 0]) := ⟨by kernel_rfl⟩
instance : By Try.prog 66 48 := ⟨by kernel_rfl⟩
instance : Pc Try.prog 66 [(0, 1), (1, 1)] := ⟨by kernel_rfl⟩
instance : Und Try.prog 67 (Go.TypeDesc.map 32 76) := ⟨Try.underlying67⟩
instance : Sz Try.prog 67 0 := ⟨by kernel_rfl⟩
instance : Pl Try.prog 67 := ⟨by kernel_rfl⟩
instance : Zr Try.prog 67 (.map none) := ⟨by kernel_rfl⟩
instance : By Try.prog 67 8 := ⟨by kernel_rfl⟩
instance : Und Try.prog 68 (Go.TypeDesc.slice 4) := ⟨Try.underlying68⟩
instance : Sz Try.prog 68 0 := ⟨by kernel_rfl⟩
instance : Pl Try.prog 68 := ⟨by kernel_rfl⟩
instance : Zr Try.prog 68 (.slice none 0 0) := ⟨by kernel_rfl⟩
instance : By Try.prog 68 24 := ⟨by kernel_rfl⟩
instance : Und Try.prog 70 (Go.TypeDesc.struct #[{ name := "m", type := 24, offset := 0, embedded := false, tag := "", pkgPath := "pharos/ring", byteOffset := 0 }, { name := "at", type := 31, offset := 1, embedded := false, tag := "", pkgPath := "pharos/ring", byteOffset := 8 }, { name := "size", type := 3, offset := 2, embedded := false, tag := "", pkgPath := "pharos/ring", byteOffset := 16 }, { name := "chains", type := 67, offset := 3, embedded := false, tag := "", pkgPath := "pharos/ring", byteOffset := 24 }, { name := "taken", type := 68, offset := 4, embedded := false, tag := "", pkgPath := "pharos/ring", byteOffset := 32 }, { name := "next", type := 32, offset := 5, embedded := false, tag := "", pkgPath := "pharos/ring", byteOffset := 56 }, { name := "last", type := 32, offset := 6, embedded := false, tag := "", pkgPath := "pharos/ring", byteOffset := 58 }, { name := "broken", type := 4, offset := 7, embedded := false, tag := "", pkgPath := "pharos/ring", byteOffset := 60 }]) := ⟨Try.underlying70⟩
instance : Sz Try.prog 70 7 := ⟨by kernel_rfl⟩
instance : Ag Try.prog 70 := ⟨by kernel_rfl⟩
instance : Zr Try.prog 70 (.agg #[.pointer none, .int .u32 0, .int .i64 0, .map none, .slice none 0 0, .int .u16 0, .int .u16 0, .bool false]) := ⟨by kernel_rfl⟩
instance : By Try.prog 70 64 := ⟨by kernel_rfl⟩
instance : Pc Try.prog 70 [(0, 1), (1, 1), (2, 1), (3, 1), (4, 1), (5, 1), (6, 1), (7, 1)] := ⟨by kernel_rfl⟩
instance : Und Try.prog 73 (Go.TypeDesc.struct #[{ name := "At", type := 31, offset := 0, embedded := false, tag := "", pkgPath := "", byteOffset := 0 }, { name := "Len", type := 31, offset := 1, embedded := false, tag := "", pkgPath := "", byteOffset := 4 }]) := ⟨Try.underlying73⟩
instance : Sz Try.prog 73 1 := ⟨by kernel_rfl⟩
instance : Ag Try.prog 73 := ⟨by kernel_rfl⟩
instance : Zr Try.prog 73 (.agg #[.int .u32 0, .int .u32 0]) := ⟨by kernel_rfl⟩
instance : By Try.prog 73 8 := ⟨by kernel_rfl⟩
instance : Pc Try.prog 73 [(0, 1), (1, 1)] := ⟨by kernel_rfl⟩
instance : Und Try.prog 76 (Go.TypeDesc.struct #[{ name := "desc", type := 33, offset := 0, embedded := false, tag := "", pkgPath := "pharos/ring", byteOffset := 0 }, { name := "bufs", type := 38, offset := 1, embedded := false, tag := "", pkgPath := "pharos/ring", byteOffset := 24 }]) := ⟨Try.underlying76⟩
instance : Sz Try.prog 76 1 := ⟨by kernel_rfl⟩
instance : Ag Try.prog 76 := ⟨by kernel_rfl⟩
instance : Zr Try.prog 76 (.agg #[.slice none 0 0, .slice none 0 0]) := ⟨by kernel_rfl⟩
instance : By Try.prog 76 48 := ⟨by kernel_rfl⟩
instance : Pc Try.prog 76 [(0, 1), (1, 1)] := ⟨by kernel_rfl⟩
instance : Und Try.prog 84 (Go.TypeDesc.int (Go.IntKind.u64)) := ⟨Try.underlying84⟩
instance : Sz Try.prog 84 0 := ⟨by kernel_rfl⟩
instance : Pl Try.prog 84 := ⟨by kernel_rfl⟩
instance : Zr Try.prog 84 (.int .u64 0) := ⟨by kernel_rfl⟩
instance : By Try.prog 84 8 := ⟨by kernel_rfl⟩
instance : Cal Try.prog 6 := ⟨Try.call6⟩
instance : Cal Try.prog 7 := ⟨Try.call7⟩
instance : Cal Try.prog 8 := ⟨Try.call8⟩
instance : Cal Try.prog 9 := ⟨Try.call9⟩
instance : Cal Try.prog 10 := ⟨Try.call10⟩
instance : Cal Try.prog 11 := ⟨Try.call11⟩
instance : Cal Try.prog 12 := ⟨Try.call12⟩
instance : Cal Try.prog 13 := ⟨Try.call13⟩
instance : Cal Try.prog 14 := ⟨Try.call14⟩
instance : Cal Try.prog 15 := ⟨Try.call15⟩
instance : Cal Try.prog 16 := ⟨Try.call16⟩
instance : Cal Try.prog 17 := ⟨Try.call17⟩
instance : Cal Try.prog 18 := ⟨Try.call18⟩
instance : Cal Try.prog 19 := ⟨Try.call19⟩
instance : Cal Try.prog 20 := ⟨Try.call20⟩
instance : Cal Try.prog 21 := ⟨Try.call21⟩
instance : Cal Try.prog 22 := ⟨Try.call22⟩
instance : Cal Try.prog 23 := ⟨Try.call23⟩
instance : Cal Try.prog 24 := ⟨Try.call24⟩
instance : Cal Try.prog 25 := ⟨Try.call25⟩
instance : Cal Try.prog 26 := ⟨Try.call26⟩
instance : Cal Try.prog 27 := ⟨Try.call27⟩
instance : Cal Try.prog 28 := ⟨Try.call28⟩
instance : Cal Try.prog 29 := ⟨Try.call29⟩
instance : Cal Try.prog 30 := ⟨Try.call30⟩
instance : Cal Try.prog 31 := ⟨Try.call31⟩
instance : Cal Try.prog 32 := ⟨Try.call32⟩
instance : Cal Try.prog 33 := ⟨Try.call33⟩
instance : Cal Try.prog 34 := ⟨Try.call34⟩
instance : Cal Try.prog 35 := ⟨Try.call35⟩
instance : Cal Try.prog 36 := ⟨Try.call36⟩
instance : Cal Try.prog 37 := ⟨Try.call37⟩
instance : Cal Try.prog 38 := ⟨Try.call38⟩
instance : Cal Try.prog 39 := ⟨Try.call39⟩
instance : Cal Try.prog 40 := ⟨Try.call40⟩
instance : Cal Try.prog 41 := ⟨Try.call41⟩
instance : Cal Try.prog 42 := ⟨Try.call42⟩
instance : Cal Try.prog 43 := ⟨Try.call43⟩
instance : Cal Try.prog 44 := ⟨Try.call44⟩
instance : Cal Try.prog 45 := ⟨Try.call45⟩
instance : Cal Try.prog 46 := ⟨Try.call46⟩
instance : Cal Try.prog 47 := ⟨Try.call47⟩
instance : Cal Try.prog 48 := ⟨Try.call48⟩
instance : Cal Try.prog 49 := ⟨Try.call49⟩
instance : Cal Try.prog 50 := ⟨Try.call50⟩
instance : Cal Try.prog 51 := ⟨Try.call51⟩
instance : Cal Try.prog 52 := ⟨Try.call52⟩
instance : Cal Try.prog 53 := ⟨Try.call53⟩
instance : Cal Try.prog 54 := ⟨Try.call54⟩
instance : Cal Try.prog 55 := ⟨Try.call55⟩
instance : Cal Try.prog 57 := ⟨Try.call57⟩
instance : Cal Try.prog 58 := ⟨Try.call58⟩
instance : Cal Try.prog 59 := ⟨Try.call59⟩
instance : Mixed Try.prog := ⟨by kernel_rfl⟩

end Go.Proofs.Ytcmafjngfcablaa


namespace Go.Proofs.Ytcmafjngfcablaa
open Go Pw
set_option maxHeartbeats 1000000
/-! The memory, the pool, of the program and of the reference: each as one thing; what each call makes of it. -/
def memA (p : Nat) (bs : List UInt8) (lt : List Bool) : Assn :=
  exA (fun x : Nat × Value × List Spn => bs.length ≤ 1048576 ∧ Canon 0 bs.length x.2.2 ∧ lt = flags bs.length x.2.2)
    fun x => [row 66 p [.slice (some ⟨x.1, 0, none⟩) bs.length bs.length, x.2.1], row 5 x.1 (bs.map byteV), sl 73 2 x.2.1 x.2.2.length (spans x.2.2)]
structure PoolOk (at0 sz : Nat) (wh : List UInt8) (n : Nat) : Prop where
  h0 : at0 < 4294967296
  hz : 0 < sz
  hz2 : sz ≤ 1048576
  hc : wh.length ≤ 256
  hn : at0 + wh.length * sz ≤ n
  hn2 : n ≤ 1048576
theorem PoolOk.set {at0 sz n : Nat} {wh : List UInt8} (h : PoolOk at0 sz wh n) (k : Nat) (x : UInt8) : PoolOk at0 sz (wh.set k x) n :=
  ⟨h.h0, h.hz, h.hz2, by simpa using h.hc, by simpa using h.hn, h.hn2⟩
theorem canon_facts {n : Nat} {ss : List Spn} (h : Canon 0 n ss) (hn : n ≤ 1048576) : ss.length ≤ 1048576 ∧ ∀ s ∈ ss, s.1 + s.2 ≤ 1048576 := by
  constructor
  · cases ss with
    | nil => simp
    | cons x t =>
      obtain ⟨h1, h2, h3, h4⟩ := h
      have := h4.len (by omega)
      simp only [List.length_cons]; omega
  · intro s hs
    have := h.ge s hs; omega
/-- The buffer of a place. -/
def findK (at0 sz cnt at_ : Nat) : Option Nat := (List.range cnt).find? fun k => at_ == at0 + k * sz
theorem findK_some {at0 sz cnt at_ k : Nat} (h : findK at0 sz cnt at_ = some k) : k < cnt ∧ at_ = at0 + k * sz := by
  have h1 := List.mem_of_find?_eq_some h
  have h2 := List.find?_some h
  exact ⟨by simpa using h1, by simpa using h2⟩
theorem findK_none {at0 sz cnt at_ : Nat} (h : findK at0 sz cnt at_ = none) : ∀ k, k < cnt → at_ ≠ at0 + k * sz := fun k hk he => by
  have := List.find?_eq_none.1 h k (by simpa using hk)
  simp [he] at this
theorem findK_at {at0 sz cnt k : Nat} (hz : 0 < sz) (hk : k < cnt) : findK at0 sz cnt (at0 + k * sz) = some k := by
  cases h : findK at0 sz cnt (at0 + k * sz) with
  | none => exact absurd rfl (findK_none h k hk)
  | some j =>
    have := (findK_some h).2
    have h2 : k * sz = j * sz := by omega
    rw [Nat.eq_of_mul_eq_mul_right hz h2]
def wAt (wh : List UInt8) (k : Nat) : UInt8 := wh[k]?.getD 0
theorem wAt_eq {wh : List UInt8} {k : Nat} (hk : k < wh.length) : wh[k]? = some (wAt wh k) := by simp [wAt, hk]
def getE (at0 sz : Nat) (wh : List UInt8) : (Nat × Nat) × List UInt8 := match wh.findIdx? (· == 0) with
  | some k => ((at0 + k * sz, 0), wh.set k 1)
  | none => ((0, 6), wh)
def pputE (at0 sz : Nat) (wh : List UInt8) (at_ : Nat) : Nat × List UInt8 := match findK at0 sz wh.length at_ with
  | none => (2, wh)
  | some k => if wAt wh k = 1 then (0, wh.set k 0) else (3, wh)
def ptE (fr to : UInt8) (x : Bool) (e : Nat) (at0 sz : Nat) (wh : List UInt8) (lt : List Bool) (at_ : Nat) : Nat × List UInt8 × List Bool := match findK at0 sz wh.length at_ with
  | none => (2, wh, lt)
  | some k => if wAt wh k = fr then (if allB lt at_ sz (!x) = true then (0, wh.set k to, fillB lt at_ sz x) else (e, wh, lt)) else (3, wh, lt)
def whoseE (at0 sz : Nat) (wh : List UInt8) (at_ : Nat) : UInt8 × Nat := match findK at0 sz wh.length at_ with
  | none => (0, 2)
  | some k => (wAt wh k, 0)
theorem getE_len (at0 sz : Nat) (wh : List UInt8) : (getE at0 sz wh).2.length = wh.length := by unfold getE; split <;> simp
theorem pputE_len (at0 sz : Nat) (wh : List UInt8) (at_ : Nat) : (pputE at0 sz wh at_).2.length = wh.length := by unfold pputE; split; rfl; split <;> simp
theorem ptE_len (fr to : UInt8) (x : Bool) (e : Nat) (at0 sz : Nat) (wh : List UInt8) (lt : List Bool) (at_ : Nat) : (ptE fr to x e at0 sz wh lt at_).2.1.length = wh.length := by unfold ptE; split; rfl; split; split; simp; rfl; rfl
theorem in_pool {at0 sz n at_ k : Nat} {wh : List UInt8} (h : PoolOk at0 sz wh n) (hk : k < wh.length) (he : at_ = at0 + k * sz) : at_ + sz ≤ n := by
  have h1 := Nat.mul_le_mul_right sz (Nat.succ_le_of_lt hk)
  rw [Nat.succ_mul] at h1
  have := h.hn; omega
theorem findIdx_some {wh : List UInt8} {k : Nat} (h : wh.findIdx? (· == 0) = some k) : wh[k]? = some 0 ∧ ∀ j, j < k → wh[j]? ≠ some 0 := by
  obtain ⟨hk, h1, h2⟩ := List.findIdx?_eq_some_iff_getElem.1 h
  refine ⟨by rw [List.getElem?_eq_getElem hk]; simpa using h1, fun j hj hc => ?_⟩
  have := h2 j hj
  rw [List.getElem?_eq_getElem (by omega)] at hc
  simp at hc; simp [hc] at this
theorem findIdx_none {wh : List UInt8} (h : wh.findIdx? (· == 0) = none) : 0 ∉ wh := fun hm => by
  have := List.findIdx?_eq_none_iff.1 h 0 hm
  simp at this
theorem readA (p at_ : Nat) (n : Int) (bs : List UInt8) (lt : List Bool) (ha : at_ < 4294967296) (hn : n < 9223372036854775808) :
    Sat Try.prog 22 [.pointer (some ⟨p, 0, none⟩), .int .u32 at_, .int .i64 n] [memA p bs lt] (fun u L' => u = .tuple #[str (readE bs at_ n).1, .int .i64 ((readE bs at_ n).2 : Nat)] ∧ L' = [memA p bs lt]) := by
  refine Sat.openA1 ?_
  rintro ⟨b, v, ss⟩ ⟨hbs, hcn, rfl⟩
  dsimp only
  obtain ⟨hlen, hb⟩ := canon_facts hcn hbs
  unfold readE
  split
  · rename_i h
    refine (read_neg p b at_ v bs ss n h).post ?_
    rintro u L' ⟨rfl, rfl⟩
    exact ⟨_, Imp.shutA1 ⟨b, v, ss⟩ ⟨hbs, hcn, rfl⟩ (Imp.refl _), rfl, rfl⟩
  · rename_i h
    obtain ⟨m, rfl⟩ := Int.eq_ofNat_of_zero_le (Int.not_lt.1 h)
    rw [Int.toNat_natCast]
    split
    · rename_i h2
      refine (read_ok p b at_ v bs ss m hbs hlen hb ha h2).post ?_
      rintro u L' ⟨rfl, rfl⟩
      exact ⟨_, Imp.shutA1 ⟨b, v, ss⟩ ⟨hbs, hcn, rfl⟩ (Imp.refl _), rfl, rfl⟩
    · rename_i h2
      refine (read_out p b at_ v bs ss m hbs hlen hb ha (by omega) (by omega)).post ?_
      rintro u L' ⟨rfl, rfl⟩
      exact ⟨_, Imp.shutA1 ⟨b, v, ss⟩ ⟨hbs, hcn, rfl⟩ (Imp.refl _), rfl, rfl⟩
theorem u16A (p at_ : Nat) (bs : List UInt8) (lt : List Bool) (ha : at_ < 4294967296) :
    Sat Try.prog 38 [.pointer (some ⟨p, 0, none⟩), .int .u32 at_] [memA p bs lt] (fun u L' => u = .tuple #[.int .u16 ((numE bs at_ 2).1 : Nat), .int .i64 ((numE bs at_ 2).2 : Nat)] ∧ L' = [memA p bs lt]) := by
  refine Sat.openA1 ?_
  rintro ⟨b, v, ss⟩ ⟨hbs, hcn, rfl⟩
  dsimp only
  obtain ⟨hlen, hb⟩ := canon_facts hcn hbs
  unfold numE
  split
  · rename_i h2
    refine (u16_ok p b at_ v bs ss hbs hlen hb ha h2).post ?_
    rintro u L' ⟨rfl, rfl⟩
    exact ⟨_, Imp.shutA1 ⟨b, v, ss⟩ ⟨hbs, hcn, rfl⟩ (Imp.refl _), rfl, rfl⟩
  · rename_i h2
    refine (u16_out p b at_ v bs ss hbs hlen hb ha (by omega)).post ?_
    rintro u L' ⟨rfl, rfl⟩
    exact ⟨_, Imp.shutA1 ⟨b, v, ss⟩ ⟨hbs, hcn, rfl⟩ (Imp.refl _), rfl, rfl⟩
theorem u32A (p at_ : Nat) (bs : List UInt8) (lt : List Bool) (ha : at_ < 4294967296) :
    Sat Try.prog 39 [.pointer (some ⟨p, 0, none⟩), .int .u32 at_] [memA p bs lt] (fun u L' => u = .tuple #[.int .u32 ((numE bs at_ 4).1 : Nat), .int .i64 ((numE bs at_ 4).2 : Nat)] ∧ L' = [memA p bs lt]) := by
  refine Sat.openA1 ?_
  rintro ⟨b, v, ss⟩ ⟨hbs, hcn, rfl⟩
  dsimp only
  obtain ⟨hlen, hb⟩ := canon_facts hcn hbs
  unfold numE
  split
  · rename_i h2
    refine (u32_ok p b at_ v bs ss hbs hlen hb ha h2).post ?_
    rintro u L' ⟨rfl, rfl⟩
    exact ⟨_, Imp.shutA1 ⟨b, v, ss⟩ ⟨hbs, hcn, rfl⟩ (Imp.refl _), rfl, rfl⟩
  · rename_i h2
    refine (u32_out p b at_ v bs ss hbs hlen hb ha (by omega)).post ?_
    rintro u L' ⟨rfl, rfl⟩
    exact ⟨_, Imp.shutA1 ⟨b, v, ss⟩ ⟨hbs, hcn, rfl⟩ (Imp.refl _), rfl, rfl⟩
theorem writeA (p at_ : Nat) (s : List UInt8) (bs : List UInt8) (lt : List Bool) (ha : at_ < 4294967296) (hs : s.length < 9223372036854775808) :
    Sat Try.prog 26 [.pointer (some ⟨p, 0, none⟩), .int .u32 at_, str s] [memA p bs lt] (fun u L' => u = .int .i64 ((writeE bs lt at_ s false 11).1 : Nat) ∧ L' = [memA p (writeE bs lt at_ s false 11).2 lt]) := by
  refine Sat.openA1 ?_
  rintro ⟨b, v, ss⟩ ⟨hbs, hcn, rfl⟩
  dsimp only
  obtain ⟨hlen, hb⟩ := canon_facts hcn hbs
  unfold writeE
  
  split
  · rename_i h2
    split
    · rename_i h3
      refine (write_ok p b at_ v bs ss s hbs hlen hb ha h2 ((all_false hcn h2).1 h3)).post ?_
      rintro u L' ⟨rfl, rfl⟩
      have hpl := putB_len (bs := bs) (a := at_) (s := s) (by skip; exact h2)
      refine ⟨_, Imp.shutA1 ⟨b, v, ss⟩ ⟨by rw [hpl]; exact hbs, by rw [hpl]; exact hcn, by rw [hpl]⟩ (by rw [hpl]; exact Imp.refl _), rfl, rfl⟩
    · rename_i h3
      refine (write_bad p b at_ v bs ss s hbs hlen hb ha h2 (Nat.pos_of_ne_zero fun h4 => h3 ((all_false hcn h2).2 h4))).post ?_
      rintro u L' ⟨rfl, rfl⟩
      exact ⟨_, Imp.shutA1 ⟨b, v, ss⟩ ⟨hbs, hcn, rfl⟩ (Imp.refl _), rfl, rfl⟩
  · rename_i h2
    refine (write_out p b at_ v bs ss s hbs hlen hb ha hs (by omega)).post ?_
    rintro u L' ⟨rfl, rfl⟩
    exact ⟨_, Imp.shutA1 ⟨b, v, ss⟩ ⟨hbs, hcn, rfl⟩ (Imp.refl _), rfl, rfl⟩
theorem deviceA (p at_ : Nat) (s : List UInt8) (bs : List UInt8) (lt : List Bool) (ha : at_ < 4294967296) (hs : s.length < 9223372036854775808) :
    Sat Try.prog 10 [.pointer (some ⟨p, 0, none⟩), .int .u32 at_, str s] [memA p bs lt] (fun u L' => u = .int .i64 ((writeE bs lt at_ s true 12).1 : Nat) ∧ L' = [memA p (writeE bs lt at_ s true 12).2 lt]) := by
  refine Sat.openA1 ?_
  rintro ⟨b, v, ss⟩ ⟨hbs, hcn, rfl⟩
  dsimp only
  obtain ⟨hlen, hb⟩ := canon_facts hcn hbs
  unfold writeE
  
  split
  · rename_i h2
    split
    · rename_i h3
      refine (device_ok p b at_ v bs ss s hbs hlen hb ha h2 ((all_true hcn h2).1 h3)).post ?_
      rintro u L' ⟨rfl, rfl⟩
      have hpl := putB_len (bs := bs) (a := at_) (s := s) (by skip; exact h2)
      refine ⟨_, Imp.shutA1 ⟨b, v, ss⟩ ⟨by rw [hpl]; exact hbs, by rw [hpl]; exact hcn, by rw [hpl]⟩ (by rw [hpl]; exact Imp.refl _), rfl, rfl⟩
    · rename_i h3
      refine (device_bad p b at_ v bs ss s hbs hlen hb ha h2 (Nat.lt_of_not_le fun h4 => h3 ((all_true hcn h2).2 h4))).post ?_
      rintro u L' ⟨rfl, rfl⟩
      exact ⟨_, Imp.shutA1 ⟨b, v, ss⟩ ⟨hbs, hcn, rfl⟩ (Imp.refl _), rfl, rfl⟩
  · rename_i h2
    refine (device_out p b at_ v bs ss s hbs hlen hb ha hs (by omega)).post ?_
    rintro u L' ⟨rfl, rfl⟩
    exact ⟨_, Imp.shutA1 ⟨b, v, ss⟩ ⟨hbs, hcn, rfl⟩ (Imp.refl _), rfl, rfl⟩
theorem put16A (p at_ : Nat) (x : Nat) (bs : List UInt8) (lt : List Bool) (ha : at_ < 4294967296) (hx : x < 65536) :
    Sat Try.prog 34 [.pointer (some ⟨p, 0, none⟩), .int .u32 at_, .int .u16 x] [memA p bs lt] (fun u L' => u = .int .i64 ((writeE bs lt at_ (leB x 2) false 11).1 : Nat) ∧ L' = [memA p (writeE bs lt at_ (leB x 2) false 11).2 lt]) := by
  refine Sat.openA1 ?_
  rintro ⟨b, v, ss⟩ ⟨hbs, hcn, rfl⟩
  dsimp only
  obtain ⟨hlen, hb⟩ := canon_facts hcn hbs
  unfold writeE
  rw [leB_len]
  split
  · rename_i h2
    split
    · rename_i h3
      refine (put16_ok p b at_ v bs ss x hx hbs hlen hb ha h2 ((all_false hcn h2).1 h3)).post ?_
      rintro u L' ⟨rfl, rfl⟩
      have hpl := putB_len (bs := bs) (a := at_) (s := (leB x 2)) (by rw [leB_len]; exact h2)
      refine ⟨_, Imp.shutA1 ⟨b, v, ss⟩ ⟨by rw [hpl]; exact hbs, by rw [hpl]; exact hcn, by rw [hpl]⟩ (by rw [hpl]; exact Imp.refl _), rfl, rfl⟩
    · rename_i h3
      refine (put16_bad p b at_ v bs ss x hx hbs hlen hb ha h2 (Nat.pos_of_ne_zero fun h4 => h3 ((all_false hcn h2).2 h4))).post ?_
      rintro u L' ⟨rfl, rfl⟩
      exact ⟨_, Imp.shutA1 ⟨b, v, ss⟩ ⟨hbs, hcn, rfl⟩ (Imp.refl _), rfl, rfl⟩
  · rename_i h2
    refine (put16_out p b at_ v bs ss x hx hbs hlen hb ha (by omega)).post ?_
    rintro u L' ⟨rfl, rfl⟩
    exact ⟨_, Imp.shutA1 ⟨b, v, ss⟩ ⟨hbs, hcn, rfl⟩ (Imp.refl _), rfl, rfl⟩
theorem put32A (p at_ : Nat) (x : Nat) (bs : List UInt8) (lt : List Bool) (ha : at_ < 4294967296) (hx : x < 4294967296) :
    Sat Try.prog 51 [.pointer (some ⟨p, 0, none⟩), .int .u32 at_, .int .u32 x] [memA p bs lt] (fun u L' => u = .int .i64 ((writeE bs lt at_ (leB x 4) false 11).1 : Nat) ∧ L' = [memA p (writeE bs lt at_ (leB x 4) false 11).2 lt]) := by
  refine Sat.openA1 ?_
  rintro ⟨b, v, ss⟩ ⟨hbs, hcn, rfl⟩
  dsimp only
  obtain ⟨hlen, hb⟩ := canon_facts hcn hbs
  unfold writeE
  rw [leB_len]
  split
  · rename_i h2
    split
    · rename_i h3
      refine (put32_ok p b at_ v bs ss x hx hbs hlen hb ha h2 ((all_false hcn h2).1 h3)).post ?_
      rintro u L' ⟨rfl, rfl⟩
      have hpl := putB_len (bs := bs) (a := at_) (s := (leB x 4)) (by rw [leB_len]; exact h2)
      refine ⟨_, Imp.shutA1 ⟨b, v, ss⟩ ⟨by rw [hpl]; exact hbs, by rw [hpl]; exact hcn, by rw [hpl]⟩ (by rw [hpl]; exact Imp.refl _), rfl, rfl⟩
    · rename_i h3
      refine (put32_bad p b at_ v bs ss x hx hbs hlen hb ha h2 (Nat.pos_of_ne_zero fun h4 => h3 ((all_false hcn h2).2 h4))).post ?_
      rintro u L' ⟨rfl, rfl⟩
      exact ⟨_, Imp.shutA1 ⟨b, v, ss⟩ ⟨hbs, hcn, rfl⟩ (Imp.refl _), rfl, rfl⟩
  · rename_i h2
    refine (put32_out p b at_ v bs ss x hx hbs hlen hb ha (by omega)).post ?_
    rintro u L' ⟨rfl, rfl⟩
    exact ⟨_, Imp.shutA1 ⟨b, v, ss⟩ ⟨hbs, hcn, rfl⟩ (Imp.refl _), rfl, rfl⟩
theorem put64A (p at_ : Nat) (x : Nat) (bs : List UInt8) (lt : List Bool) (ha : at_ < 4294967296) (hx : x < 18446744073709551616) :
    Sat Try.prog 50 [.pointer (some ⟨p, 0, none⟩), .int .u32 at_, .int .u64 x] [memA p bs lt] (fun u L' => u = .int .i64 ((writeE bs lt at_ (leB x 8) false 11).1 : Nat) ∧ L' = [memA p (writeE bs lt at_ (leB x 8) false 11).2 lt]) := by
  refine Sat.openA1 ?_
  rintro ⟨b, v, ss⟩ ⟨hbs, hcn, rfl⟩
  dsimp only
  obtain ⟨hlen, hb⟩ := canon_facts hcn hbs
  unfold writeE
  rw [leB_len]
  split
  · rename_i h2
    split
    · rename_i h3
      refine (put64_ok p b at_ v bs ss x hx hbs hlen hb ha h2 ((all_false hcn h2).1 h3)).post ?_
      rintro u L' ⟨rfl, rfl⟩
      have hpl := putB_len (bs := bs) (a := at_) (s := (leB x 8)) (by rw [leB_len]; exact h2)
      refine ⟨_, Imp.shutA1 ⟨b, v, ss⟩ ⟨by rw [hpl]; exact hbs, by rw [hpl]; exact hcn, by rw [hpl]⟩ (by rw [hpl]; exact Imp.refl _), rfl, rfl⟩
    · rename_i h3
      refine (put64_bad p b at_ v bs ss x hx hbs hlen hb ha h2 (Nat.pos_of_ne_zero fun h4 => h3 ((all_false hcn h2).2 h4))).post ?_
      rintro u L' ⟨rfl, rfl⟩
      exact ⟨_, Imp.shutA1 ⟨b, v, ss⟩ ⟨hbs, hcn, rfl⟩ (Imp.refl _), rfl, rfl⟩
  · rename_i h2
    refine (put64_out p b at_ v bs ss x hx hbs hlen hb ha (by omega)).post ?_
    rintro u L' ⟨rfl, rfl⟩
    exact ⟨_, Imp.shutA1 ⟨b, v, ss⟩ ⟨hbs, hcn, rfl⟩ (Imp.refl _), rfl, rfl⟩
theorem hsort_of {n : Nat} {ss : List Spn} (h : Canon 0 n ss) : ∀ (m h' : Nat) (x y : Spn), m ≤ h' → ss[m]? = some x → ss[h']? = some y → x.1 ≤ y.1 := fun m h' x y => h.sort m h' x y
theorem lendA (p at_ l : Nat) (bs : List UInt8) (lt : List Bool) (ha : at_ < 4294967296) (hl : l < 4294967296) :
    Sat Try.prog 27 [.pointer (some ⟨p, 0, none⟩), .agg #[.int .u32 at_, .int .u32 l]] [memA p bs lt] (fun u L' => u = .int .i64 ((turnE lt at_ l true 11).1 : Nat) ∧ L' = [memA p bs (turnE lt at_ l true 11).2]) := by
  refine Sat.openA1 ?_
  rintro ⟨b, v, ss⟩ ⟨hbs, hcn, rfl⟩
  dsimp only
  obtain ⟨hlen, hb⟩ := canon_facts hcn hbs
  unfold turnE
  rw [flags_len]
  split
  · rename_i h1
    have h2 := h1.2
    split
    · rename_i h3
      refine (lend_ok p b at_ l v bs ss hbs hlen hb ha hl h1.1 h2 ((all_false hcn h2).1 h3) (hsort_of hcn)).post ?_
      rintro u L' ⟨v2, pre, post, rfl, he, g1, g2, rfl⟩
      obtain ⟨c1, c2⟩ := lend_plain hcn he g1 g2 h1.1 h2 ((all_false hcn h2).1 h3)
      exact ⟨_, Imp.shutA1 ⟨b, v2, _⟩ ⟨hbs, c1, lend_flags h2 c2⟩ (Imp.refl _), rfl, rfl⟩
    · rename_i h3
      refine (lend_bad p b at_ l v bs ss hbs hlen hb ha hl h1.1 h2 (Nat.pos_of_ne_zero fun h4 => h3 ((all_false hcn h2).2 h4))).post ?_
      rintro u L' ⟨rfl, rfl⟩
      exact ⟨_, Imp.shutA1 ⟨b, v, ss⟩ ⟨hbs, hcn, rfl⟩ (Imp.refl _), rfl, rfl⟩
  · rename_i h1
    refine (lend_out p b at_ l v bs ss hbs hlen hb ha hl (by omega)).post ?_
    rintro u L' ⟨rfl, rfl⟩
    exact ⟨_, Imp.shutA1 ⟨b, v, ss⟩ ⟨hbs, hcn, rfl⟩ (Imp.refl _), rfl, rfl⟩
theorem backA (p at_ l : Nat) (bs : List UInt8) (lt : List Bool) (ha : at_ < 4294967296) (hl : l < 4294967296) :
    Sat Try.prog 55 [.pointer (some ⟨p, 0, none⟩), .agg #[.int .u32 at_, .int .u32 l]] [memA p bs lt] (fun u L' => u = .int .i64 ((turnE lt at_ l false 12).1 : Nat) ∧ L' = [memA p bs (turnE lt at_ l false 12).2]) := by
  refine Sat.openA1 ?_
  rintro ⟨b, v, ss⟩ ⟨hbs, hcn, rfl⟩
  dsimp only
  obtain ⟨hlen, hb⟩ := canon_facts hcn hbs
  unfold turnE
  rw [flags_len]
  split
  · rename_i h1
    have h2 := h1.2
    split
    · rename_i h3
      refine (back_ok p b at_ l v bs ss hbs hlen hb ha hl h1.1 h2 ((all_true hcn h2).1 h3)).post ?_
      rintro u L' ⟨v2, rfl, rfl⟩
      obtain ⟨c1, c2⟩ := back_plain h1.1 hcn (hcn.one h1.1 ((shared_all hcn at_ l).1 ((all_true hcn h2).1 h3)))
      exact ⟨_, Imp.shutA1 ⟨b, v2, _⟩ ⟨hbs, c1, back_flags h2 c2⟩ (Imp.refl _), rfl, rfl⟩
    · rename_i h3
      refine (back_bad p b at_ l v bs ss hbs hlen hb ha hl h1.1 h2 (Nat.lt_of_not_le fun h4 => h3 ((all_true hcn h2).2 h4))).post ?_
      rintro u L' ⟨rfl, rfl⟩
      exact ⟨_, Imp.shutA1 ⟨b, v, ss⟩ ⟨hbs, hcn, rfl⟩ (Imp.refl _), rfl, rfl⟩
  · rename_i h1
    refine (back_out p b at_ l v bs ss hbs hlen hb ha hl (by omega)).post ?_
    rintro u L' ⟨rfl, rfl⟩
    exact ⟨_, Imp.shutA1 ⟨b, v, ss⟩ ⟨hbs, hcn, rfl⟩ (Imp.refl _), rfl, rfl⟩
theorem lentA (p : Nat) (bs : List UInt8) (lt : List Bool) :
    Sat Try.prog 23 [.pointer (some ⟨p, 0, none⟩)] [memA p bs lt] (fun u L' => ∃ ss, bs.length ≤ 1048576 ∧ Canon 0 bs.length ss ∧ lt = flags bs.length ss ∧ L' = [memA p bs lt, sl 73 2 u ss.length (spans ss)]) := by
  refine Sat.openA1 ?_
  rintro ⟨b, v, ss⟩ ⟨hbs, hcn, rfl⟩
  dsimp only
  obtain ⟨hlen, hb⟩ := canon_facts hcn hbs
  refine Sat.imp (A' := [row 66 p [.slice (some ⟨b, 0, none⟩) bs.length bs.length, v], sl 73 2 v ss.length (spans ss)] ++ [row 5 b (bs.map byteV)]) (by (repeat first | exact Imp.refl _ | exact Imp.nil _ | (apply Imp.pull; focus ((repeat first | exact Del.head _ _ | apply Del.tail); done)) | apply Imp.drop)) ?_
  refine ((lent_spec p _ v ss hlen).frame (F := [row 5 b (bs.map byteV)])).post ?_
  rintro u L' ⟨_, rfl, rfl⟩
  exact ⟨_, Imp.shutA (R := [sl 73 2 u ss.length (spans ss)]) ⟨b, v, ss⟩ ⟨hbs, hcn, rfl⟩ (by simp only [List.cons_append, List.nil_append]; (repeat first | exact Imp.refl _ | exact Imp.nil _ | (apply Imp.pull; focus ((repeat first | exact Del.head _ _ | apply Del.tail); done)) | apply Imp.drop)), ss, hbs, hcn, rfl, rfl⟩
theorem sizeA (p : Nat) (bs : List UInt8) (lt : List Bool) :
    Sat Try.prog 48 [.pointer (some ⟨p, 0, none⟩)] [memA p bs lt] (fun u L' => u = .int .i64 (bs.length : Nat) ∧ L' = [memA p bs lt]) := by
  refine Sat.openA1 ?_
  rintro ⟨b, v, ss⟩ ⟨hbs, hcn, rfl⟩
  dsimp only
  obtain ⟨hlen, hb⟩ := canon_facts hcn hbs
  refine ((size_spec p bs.length bs.length (some ⟨b, 0, none⟩) v).frame (F := [row 5 b (bs.map byteV), sl 73 2 v ss.length (spans ss)])).post ?_
  rintro u L' ⟨_, ⟨rfl, rfl⟩, rfl⟩
  exact ⟨_, Imp.shutA1 ⟨b, v, ss⟩ ⟨hbs, hcn, rfl⟩ (Imp.refl _), rfl, rfl⟩
end Go.Proofs.Ytcmafjngfcablaa

