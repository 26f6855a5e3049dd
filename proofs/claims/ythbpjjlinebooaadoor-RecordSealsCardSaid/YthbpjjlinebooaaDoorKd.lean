/- Lemmas for the proofs of this seat: no statement of the seat is claimed here. -/
import Derived.Test.YthbpjjlinebooaaDoorProg
import Derived.Test.YthbpjjlinebooaaDoorKc
set_option linter.all false

namespace Go.Proofs.YthbpjjlinebooaaDoor
open Go Pw
set_option maxRecDepth 20000
set_option maxHeartbeats 4000000
instance : Und Tryd.prog 3 (Go.TypeDesc.int (Go.IntKind.i64)) := ⟨Tryd.underlying3⟩
instance : Sz Tryd.prog 3 0 := ⟨by kernel_rfl⟩
instance : Pl Tryd.prog 3 := ⟨by kernel_rfl⟩
instance : Zr Tryd.prog 3 (.int .i64 0) := ⟨by kernel_rfl⟩
instance : By Tryd.prog 3 8 := ⟨by kernel_rfl⟩
instance : Und Tryd.prog 4 (Go.TypeDesc.bool) := ⟨Tryd.underlying4⟩
instance : Sz Tryd.prog 4 0 := ⟨by kernel_rfl⟩
instance : Pl Tryd.prog 4 := ⟨by kernel_rfl⟩
instance : Zr Tryd.prog 4 (.bool false) := ⟨by kernel_rfl⟩
instance : By Tryd.prog 4 1 := ⟨by kernel_rfl⟩
instance : Und Tryd.prog 5 (Go.TypeDesc.int (Go.IntKind.u8)) := ⟨Tryd.underlying5⟩
instance : Sz Tryd.prog 5 0 := ⟨by kernel_rfl⟩
instance : Pl Tryd.prog 5 := ⟨by kernel_rfl⟩
instance : Zr Tryd.prog 5 (.int .u8 0) := ⟨by kernel_rfl⟩
instance : By Tryd.prog 5 1 := ⟨by kernel_rfl⟩
instance : Und Tryd.prog 9 (Go.TypeDesc.string) := ⟨Tryd.underlying9⟩
instance : Sz Tryd.prog 9 0 := ⟨by kernel_rfl⟩
instance : Pl Tryd.prog 9 := ⟨by kernel_rfl⟩
instance : Zr Tryd.prog 9 (.string ⟨#[]⟩) := ⟨by kernel_rfl⟩
instance : By Tryd.prog 9 16 := ⟨by kernel_rfl⟩
instance : Und Tryd.prog 21 (Go.TypeDesc.int (Go.IntKind.i32)) := ⟨Tryd.underlying21⟩
instance : Sz Tryd.prog 21 0 := ⟨by kernel_rfl⟩
instance : Pl Tryd.prog 21 := ⟨by kernel_rfl⟩
instance : Zr Tryd.prog 21 (.int .i32 0) := ⟨by kernel_rfl⟩
instance : By Tryd.prog 21 4 := ⟨by kernel_rfl⟩
instance : Und Tryd.prog 22 (Go.TypeDesc.slice 29) := ⟨Tryd.underlying22⟩
instance : Sz Tryd.prog 22 0 := ⟨by kernel_rfl⟩
instance : Pl Tryd.prog 22 := ⟨by kernel_rfl⟩
instance : Zr Tryd.prog 22 (.slice none 0 0) := ⟨by kernel_rfl⟩
instance : By Tryd.prog 22 24 := ⟨by kernel_rfl⟩
instance : Und Tryd.prog 24 (Go.TypeDesc.pointer 80) := ⟨Tryd.underlying24⟩
instance : Sz Tryd.prog 24 0 := ⟨by kernel_rfl⟩
instance : Pl Tryd.prog 24 := ⟨by kernel_rfl⟩
instance : Zr Tryd.prog 24 (.pointer none) := ⟨by kernel_rfl⟩
instance : By Tryd.prog 24 8 := ⟨by kernel_rfl⟩
instance : Und Tryd.prog 28 (Go.TypeDesc.struct #[{ name := "B", type := 9, offset := 0, embedded := false, tag := "", pkgPath := "", byteOffset := 0 }, { name := "E", type := 3, offset := 1, embedded := false, tag := "", pkgPath := "", byteOffset := 16 }]) := ⟨Tryd.underlying28⟩
instance : Sz Tryd.prog 28 1 := ⟨by kernel_rfl⟩
instance : Ag Tryd.prog 28 := ⟨by kernel_rfl⟩
instance : Zr Tryd.prog 28 (.agg #[.string ⟨#[]⟩, .int .i64 0]) := ⟨by kernel_rfl⟩
instance : By Tryd.prog 28 24 := ⟨by kernel_rfl⟩
instance : Pc Tryd.prog 28 [(0, 1), (1, 1)] := ⟨by kernel_rfl⟩
instance : Und Tryd.prog 29 (Go.TypeDesc.int (Go.IntKind.u16)) := ⟨Tryd.underlying29⟩
instance : Sz Tryd.prog 29 0 := ⟨by kernel_rfl⟩
instance : Pl Tryd.prog 29 := ⟨by kernel_rfl⟩
instance : Zr Tryd.prog 29 (.int .u16 0) := ⟨by kernel_rfl⟩
instance : By Tryd.prog 29 2 := ⟨by kernel_rfl⟩
instance : Und Tryd.prog 30 (Go.TypeDesc.slice 44) := ⟨Tryd.underlying30⟩
instance : Sz Tryd.prog 30 0 := ⟨by kernel_rfl⟩
instance : Pl Tryd.prog 30 := ⟨by kernel_rfl⟩
instance : Zr Tryd.prog 30 (.slice none 0 0) := ⟨by kernel_rfl⟩
instance : By Tryd.prog 30 24 := ⟨by kernel_rfl⟩
instance : Und Tryd.prog 31 (Go.TypeDesc.int (Go.IntKind.i64)) := ⟨Tryd.underlying31⟩
instance : Sz Tryd.prog 31 0 := ⟨by kernel_rfl⟩
instance : Pl Tryd.prog 31 := ⟨by kernel_rfl⟩
instance : Zr Tryd.prog 31 (.int .i64 0) := ⟨by kernel_rfl⟩
instance : By Tryd.prog 31 8 := ⟨by kernel_rfl⟩
instance : Und Tryd.prog 39 (Go.TypeDesc.int (Go.IntKind.i8)) := ⟨Tryd.underlying39⟩
instance : Sz Tryd.prog 39 0 := ⟨by kernel_rfl⟩
instance : Pl Tryd.prog 39 := ⟨by kernel_rfl⟩
instance : Zr Tryd.prog 39 (.int .i8 0) := ⟨by kernel_rfl⟩
instance : By Tryd.prog 39 1 := ⟨by kernel_rfl⟩
instance : Und Tryd.prog 41 (Go.TypeDesc.int (Go.IntKind.u64)) := ⟨Tryd.underlying41⟩
instance : Sz Tryd.prog 41 0 := ⟨by kernel_rfl⟩
instance : Pl Tryd.prog 41 := ⟨by kernel_rfl⟩
instance : Zr Tryd.prog 41 (.int .u64 0) := ⟨by kernel_rfl⟩
instance : By Tryd.prog 41 8 := ⟨by kernel_rfl⟩
instance : Und Tryd.prog 42 (Go.TypeDesc.slice 5) := ⟨Tryd.underlying42⟩
instance : Sz Tryd.prog 42 0 := ⟨by kernel_rfl⟩
instance : Pl Tryd.prog 42 := ⟨by kernel_rfl⟩
instance : Zr Tryd.prog 42 (.slice none 0 0) := ⟨by kernel_rfl⟩
instance : By Tryd.prog 42 24 := ⟨by kernel_rfl⟩
instance : Und Tryd.prog 44 (Go.TypeDesc.struct #[{ name := "Kind", type := 5, offset := 0, embedded := false, tag := "", pkgPath := "", byteOffset := 0 }, { name := "Text", type := 9, offset := 1, embedded := false, tag := "", pkgPath := "", byteOffset := 8 }]) := ⟨Tryd.underlying44⟩
instance : Sz Tryd.prog 44 1 := ⟨by kernel_rfl⟩
instance : Ag Tryd.prog 44 := ⟨by kernel_rfl⟩
instance : Zr Tryd.prog 44 (.agg #[.int .u8 0, .string ⟨#[]⟩]) := ⟨by kernel_rfl⟩
instance : By Tryd.prog 44 24 := ⟨by kernel_rfl⟩
instance : Pc Tryd.prog 44 [(0, 1), (1, 1)] := ⟨by kernel_rfl⟩
instance : Und Tryd.prog 47 (Go.TypeDesc.struct #[{ name := "Key", type := 9, offset := 0, embedded := false, tag := "", pkgPath := "", byteOffset := 0 }, { name := "IV", type := 9, offset := 1, embedded := false, tag := "", pkgPath := "", byteOffset := 16 }]) := ⟨Tryd.underlying47⟩
instance : Sz Tryd.prog 47 1 := ⟨by kernel_rfl⟩
instance : Ag Tryd.prog 47 := ⟨by kernel_rfl⟩
instance : Zr Tryd.prog 47 (.agg #[.string ⟨#[]⟩, .string ⟨#[]⟩]) := ⟨by kernel_rfl⟩
instance : By Tryd.prog 47 32 := ⟨by kernel_rfl⟩
instance : Pc Tryd.prog 47 [(0, 1), (1, 1)] := ⟨by kernel_rfl⟩
instance : Und Tryd.prog 48 (Go.TypeDesc.int (Go.IntKind.u64)) := ⟨Tryd.underlying48⟩
instance : Sz Tryd.prog 48 0 := ⟨by kernel_rfl⟩
instance : Pl Tryd.prog 48 := ⟨by kernel_rfl⟩
instance : Zr Tryd.prog 48 (.int .u64 0) := ⟨by kernel_rfl⟩
instance : By Tryd.prog 48 8 := ⟨by kernel_rfl⟩
instance : Und Tryd.prog 49 (Go.TypeDesc.slice 59) := ⟨Tryd.underlying49⟩
instance : Sz Tryd.prog 49 0 := ⟨by kernel_rfl⟩
instance : Pl Tryd.prog 49 := ⟨by kernel_rfl⟩
instance : Zr Tryd.prog 49 (.slice none 0 0) := ⟨by kernel_rfl⟩
instance : By Tryd.prog 49 24 := ⟨by kernel_rfl⟩
instance : Und Tryd.prog 51 (Go.TypeDesc.pointer 87) := ⟨Tryd.underlying51⟩
instance : Sz Tryd.prog 51 0 := ⟨by kernel_rfl⟩
instance : Pl Tryd.prog 51 := ⟨by kernel_rfl⟩
instance : Zr Tryd.prog 51 (.pointer none) := ⟨by kernel_rfl⟩
instance : By Tryd.prog 51 8 := ⟨by kernel_rfl⟩
instance : Und Tryd.prog 54 (Go.TypeDesc.pointer 70) := ⟨Tryd.underlying54⟩
instance : Sz Tryd.prog 54 0 := ⟨by kernel_rfl⟩
instance : Pl Tryd.prog 54 := ⟨by kernel_rfl⟩
instance : Zr Tryd.prog 54 (.pointer none) := ⟨by kernel_rfl⟩
instance : By Tryd.prog 54 8 := ⟨by kernel_rfl⟩
instance : Und Tryd.prog 59 (Go.TypeDesc.struct #[{ name := "R", type := 44, offset := 0, embedded := false, tag := "", pkgPath := "", byteOffset := 0 }, { name := "Pad", type := 3, offset := 2, embedded := false, tag := "", pkgPath := "", byteOffset := 24 }, { name := "Raw", type := 4, offset := 3, embedded := false, tag := "", pkgPath := "", byteOffset := 32 }, { name := "At", type := 3, offset := 4, embedded := false, tag := "", pkgPath := "", byteOffset := 40 }, { name := "By", type := 5, offset := 5, embedded := false, tag := "", pkgPath := "", byteOffset := 48 }]) := ⟨Tryd.underlying59⟩
instance : Sz Tryd.prog 59 5 := ⟨by kernel_rfl⟩
instance : Ag Tryd.prog 59 := ⟨by kernel_rfl⟩
instance : Zr Tryd.prog 59 (.agg #[.int .u8 0, .string ⟨#[]⟩, .int .i64 0, .bool false, .int .i64 0, .int .u8 0]) := ⟨by kernel_rfl⟩
instance : By Tryd.prog 59 56 := ⟨by kernel_rfl⟩
instance : Pc Tryd.prog 59 [(0, 2), (2, 1), (3, 1), (4, 1), (5, 1)] := ⟨by kernel_rfl⟩
instance : Und Tryd.prog 70 (Go.TypeDesc.struct #[{ name := "T", type := 47, offset := 0, embedded := false, tag := "", pkgPath := "", byteOffset := 0 }, { name := "Count", type := 48, offset := 2, embedded := false, tag := "", pkgPath := "", byteOffset := 32 }, { name := "Most", type := 48, offset := 3, embedded := false, tag := "", pkgPath := "", byteOffset := 40 }]) := ⟨Tryd.underlying70⟩
instance : Sz Tryd.prog 70 3 := ⟨by kernel_rfl⟩
instance : Ag Tryd.prog 70 := ⟨by kernel_rfl⟩
instance : Zr Tryd.prog 70 (.agg #[.string ⟨#[]⟩, .string ⟨#[]⟩, .int .u64 0, .int .u64 0]) := ⟨by kernel_rfl⟩
instance : By Tryd.prog 70 48 := ⟨by kernel_rfl⟩
instance : Pc Tryd.prog 70 [(0, 2), (2, 1), (3, 1)] := ⟨by kernel_rfl⟩
instance : Und Tryd.prog 80 (Go.TypeDesc.struct #[{ name := "b", type := 42, offset := 0, embedded := false, tag := "", pkgPath := "pharos/record", byteOffset := 0 }, { name := "fault", type := 31, offset := 1, embedded := false, tag := "", pkgPath := "pharos/record", byteOffset := 24 }, { name := "made", type := 4, offset := 2, embedded := false, tag := "", pkgPath := "pharos/record", byteOffset := 32 }]) := ⟨Tryd.underlying80⟩
instance : Sz Tryd.prog 80 2 := ⟨by kernel_rfl⟩
instance : Ag Tryd.prog 80 := ⟨by kernel_rfl⟩
instance : Zr Tryd.prog 80 (.agg #[.slice none 0 0, .int .i64 0, .bool false]) := ⟨by kernel_rfl⟩
instance : By Tryd.prog 80 40 := ⟨by kernel_rfl⟩
instance : Pc Tryd.prog 80 [(0, 1), (1, 1), (2, 1)] := ⟨by kernel_rfl⟩
instance : Und Tryd.prog 85 (Go.TypeDesc.array 12 5) := ⟨Tryd.underlying85⟩
instance : Sz Tryd.prog 85 11 := ⟨by kernel_rfl⟩
instance : Ag Tryd.prog 85 := ⟨by kernel_rfl⟩
instance : Zr Tryd.prog 85 (.agg #[.int .u8 0, .int .u8 0, .int .u8 0, .int .u8 0, .int .u8 0, .int .u8 0, .int .u8 0, .int .u8 0, .int .u8 0, .int .u8 0, .int .u8 0, .int .u8 0]) := ⟨by kernel_rfl⟩
instance : By Tryd.prog 85 12 := ⟨by kernel_rfl⟩
instance : Und Tryd.prog 87 (Go.TypeDesc.struct #[{ name := "key", type := 9, offset := 0, embedded := false, tag := "", pkgPath := "pharos/record", byteOffset := 0 }, { name := "iv", type := 85, offset := 1, embedded := false, tag := "", pkgPath := "pharos/record", byteOffset := 16 }, { name := "count", type := 48, offset := 13, embedded := false, tag := "", pkgPath := "pharos/record", byteOffset := 32 }, { name := "most", type := 48, offset := 14, embedded := false, tag := "", pkgPath := "pharos/record", byteOffset := 40 }]) := ⟨Tryd.underlying87⟩
instance : Sz Tryd.prog 87 14 := ⟨by kernel_rfl⟩
instance : Ag Tryd.prog 87 := ⟨by kernel_rfl⟩
instance : Zr Tryd.prog 87 (.agg #[.string ⟨#[]⟩, .int .u8 0, .int .u8 0, .int .u8 0, .int .u8 0, .int .u8 0, .int .u8 0, .int .u8 0, .int .u8 0, .int .u8 0, .int .u8 0, .int .u8 0, .int .u8 0, .int .u64 0, .int .u64 0]) := ⟨by kernel_rfl⟩
instance : By Tryd.prog 87 48 := ⟨by kernel_rfl⟩
instance : Pc Tryd.prog 87 [(0, 1), (1, 12), (13, 1), (14, 1)] := ⟨by kernel_rfl⟩
instance : Und Tryd.prog 99 (Go.TypeDesc.func #[24] #[31] false) := ⟨Tryd.underlying99⟩
instance : Sz Tryd.prog 99 0 := ⟨by kernel_rfl⟩
instance : Pl Tryd.prog 99 := ⟨by kernel_rfl⟩
instance : Zr Tryd.prog 99 (.nilFunc) := ⟨by kernel_rfl⟩
instance : By Tryd.prog 99 8 := ⟨by kernel_rfl⟩
instance : Und Tryd.prog 100 (Go.TypeDesc.array 6 99) := ⟨Tryd.underlying100⟩
instance : Sz Tryd.prog 100 5 := ⟨by kernel_rfl⟩
instance : Ag Tryd.prog 100 := ⟨by kernel_rfl⟩
instance : Zr Tryd.prog 100 (.agg #[.nilFunc, .nilFunc, .nilFunc, .nilFunc, .nilFunc, .nilFunc]) := ⟨by kernel_rfl⟩
instance : By Tryd.prog 100 48 := ⟨by kernel_rfl⟩
instance : Und Tryd.prog 107 (Go.TypeDesc.pointer 109) := ⟨Tryd.underlying107⟩
instance : Sz Tryd.prog 107 0 := ⟨by kernel_rfl⟩
instance : Pl Tryd.prog 107 := ⟨by kernel_rfl⟩
instance : Zr Tryd.prog 107 (.pointer none) := ⟨by kernel_rfl⟩
instance : By Tryd.prog 107 8 := ⟨by kernel_rfl⟩
instance : Und Tryd.prog 109 (Go.TypeDesc.struct #[{ name := "addr", type := 107, offset := 0, embedded := false, tag := "", pkgPath := "strings", byteOffset := 0 }, { name := "buf", type := 42, offset := 1, embedded := false, tag := "", pkgPath := "strings", byteOffset := 8 }]) := ⟨Tryd.underlying109⟩
instance : Sz Tryd.prog 109 1 := ⟨by kernel_rfl⟩
instance : Ag Tryd.prog 109 := ⟨by kernel_rfl⟩
instance : Zr Tryd.prog 109 (.agg #[.pointer none, .slice none 0 0]) := ⟨by kernel_rfl⟩
instance : By Tryd.prog 109 32 := ⟨by kernel_rfl⟩
instance : Pc Tryd.prog 109 [(0, 1), (1, 1)] := ⟨by kernel_rfl⟩
instance : Und Tryd.prog 117 (Go.TypeDesc.array 256 4) := ⟨Tryd.underlying117⟩
instance : Sz Tryd.prog 117 255 := ⟨by kernel_rfl⟩
instance : Ag Tryd.prog 117 := ⟨by kernel_rfl⟩
instance : Zr Tryd.prog 117 (.agg (List.replicate 256 (.bool false)).toArray) := ⟨by kernel_rfl⟩
instance : By Tryd.prog 117 256 := ⟨by kernel_rfl⟩
instance : Und Tryd.prog 125 (Go.TypeDesc.int (Go.IntKind.u32)) := ⟨Tryd.underlying125⟩
instance : Sz Tryd.prog 125 0 := ⟨by kernel_rfl⟩
instance : Pl Tryd.prog 125 := ⟨by kernel_rfl⟩
instance : Zr Tryd.prog 125 (.int .u32 0) := ⟨by kernel_rfl⟩
instance : By Tryd.prog 125 4 := ⟨by kernel_rfl⟩
instance : Und Tryd.prog 127 (Go.TypeDesc.array 64 5) := ⟨Tryd.underlying127⟩
instance : Sz Tryd.prog 127 63 := ⟨by kernel_rfl⟩
instance : Ag Tryd.prog 127 := ⟨by kernel_rfl⟩
instance : Zr Tryd.prog 127 (.agg (List.replicate 64 (.int .u8 0)).toArray) := ⟨by kernel_rfl⟩
instance : By Tryd.prog 127 64 := ⟨by kernel_rfl⟩
instance : Und Tryd.prog 129 (Go.TypeDesc.array 2 9) := ⟨Tryd.underlying129⟩
instance : Sz Tryd.prog 129 1 := ⟨by kernel_rfl⟩
instance : Ag Tryd.prog 129 := ⟨by kernel_rfl⟩
instance : Zr Tryd.prog 129 (.agg #[.string ⟨#[]⟩, .string ⟨#[]⟩]) := ⟨by kernel_rfl⟩
instance : By Tryd.prog 129 32 := ⟨by kernel_rfl⟩
instance : Und Tryd.prog 136 (Go.TypeDesc.pointer 5) := ⟨Tryd.underlying136⟩
instance : Sz Tryd.prog 136 0 := ⟨by kernel_rfl⟩
instance : Pl Tryd.prog 136 := ⟨by kernel_rfl⟩
instance : Zr Tryd.prog 136 (.pointer none) := ⟨by kernel_rfl⟩
instance : By Tryd.prog 136 8 := ⟨by kernel_rfl⟩
instance : Und Tryd.prog 140 (Go.TypeDesc.array 16 125) := ⟨Tryd.underlying140⟩
instance : Sz Tryd.prog 140 15 := ⟨by kernel_rfl⟩
instance : Ag Tryd.prog 140 := ⟨by kernel_rfl⟩
instance : Zr Tryd.prog 140 (.agg #[.int .u32 0, .int .u32 0, .int .u32 0, .int .u32 0, .int .u32 0, .int .u32 0, .int .u32 0, .int .u32 0, .int .u32 0, .int .u32 0, .int .u32 0, .int .u32 0, .int .u32 0, .int .u32 0, .int .u32 0, .int .u32 0]) := ⟨by kernel_rfl⟩
instance : By Tryd.prog 140 64 := ⟨by kernel_rfl⟩
instance : Und Tryd.prog 143 (Go.TypeDesc.array 11 48) := ⟨Tryd.underlying143⟩
instance : Sz Tryd.prog 143 10 := ⟨by kernel_rfl⟩
instance : Ag Tryd.prog 143 := ⟨by kernel_rfl⟩
instance : Zr Tryd.prog 143 (.agg #[.int .u64 0, .int .u64 0, .int .u64 0, .int .u64 0, .int .u64 0, .int .u64 0, .int .u64 0, .int .u64 0, .int .u64 0, .int .u64 0, .int .u64 0]) := ⟨by kernel_rfl⟩
instance : By Tryd.prog 143 88 := ⟨by kernel_rfl⟩
instance : Und Tryd.prog 149 (Go.TypeDesc.array 4 5) := ⟨Tryd.underlying149⟩
instance : Sz Tryd.prog 149 3 := ⟨by kernel_rfl⟩
instance : Ag Tryd.prog 149 := ⟨by kernel_rfl⟩
instance : Zr Tryd.prog 149 (.agg #[.int .u8 0, .int .u8 0, .int .u8 0, .int .u8 0]) := ⟨by kernel_rfl⟩
instance : By Tryd.prog 149 4 := ⟨by kernel_rfl⟩
instance : Und Tryd.prog 150 (Go.TypeDesc.array 8 149) := ⟨Tryd.underlying150⟩
instance : Sz Tryd.prog 150 31 := ⟨by kernel_rfl⟩
instance : Ag Tryd.prog 150 := ⟨by kernel_rfl⟩
instance : Zr Tryd.prog 150 (.agg #[.int .u8 0, .int .u8 0, .int .u8 0, .int .u8 0, .int .u8 0, .int .u8 0, .int .u8 0, .int .u8 0, .int .u8 0, .int .u8 0, .int .u8 0, .int .u8 0, .int .u8 0, .int .u8 0, .int .u8 0, .int .u8 0, .int .u8 0, .int .u8 0, .int .u8 0, .int .u8 0, .int .u8 0, .int .u8 0, .int .u8 0, .int .u8 0, .int .u8 0, .int .u8 0, .int .u8 0, .int .u8 0, .int .u8 0, .int .u8 0, .int .u8 0, .int .u8 0]) := ⟨by kernel_rfl⟩
instance : By Tryd.prog 150 32 := ⟨by kernel_rfl⟩
instance : Und Tryd.prog 152 (Go.TypeDesc.array 2 3) := ⟨Tryd.underlying152⟩
instance : Sz Tryd.prog 152 1 := ⟨by kernel_rfl⟩
instance : Ag Tryd.prog 152 := ⟨by kernel_rfl⟩
instance : Zr Tryd.prog 152 (.agg #[.int .i64 0, .int .i64 0]) := ⟨by kernel_rfl⟩
instance : By Tryd.prog 152 16 := ⟨by kernel_rfl⟩
instance : Und Tryd.prog 153 (Go.TypeDesc.array 2 152) := ⟨Tryd.underlying153⟩
instance : Sz Tryd.prog 153 3 := ⟨by kernel_rfl⟩
instance : Ag Tryd.prog 153 := ⟨by kernel_rfl⟩
instance : Zr Tryd.prog 153 (.agg #[.int .i64 0, .int .i64 0, .int .i64 0, .int .i64 0]) := ⟨by kernel_rfl⟩
instance : By Tryd.prog 153 32 := ⟨by kernel_rfl⟩
instance : Und Tryd.prog 157 (Go.TypeDesc.array 2 48) := ⟨Tryd.underlying157⟩
instance : Sz Tryd.prog 157 1 := ⟨by kernel_rfl⟩
instance : Ag Tryd.prog 157 := ⟨by kernel_rfl⟩
instance : Zr Tryd.prog 157 (.agg #[.int .u64 0, .int .u64 0]) := ⟨by kernel_rfl⟩
instance : By Tryd.prog 157 16 := ⟨by kernel_rfl⟩
instance : Und Tryd.prog 159 (Go.TypeDesc.array 3 48) := ⟨Tryd.underlying159⟩
instance : Sz Tryd.prog 159 2 := ⟨by kernel_rfl⟩
instance : Ag Tryd.prog 159 := ⟨by kernel_rfl⟩
instance : Zr Tryd.prog 159 (.agg #[.int .u64 0, .int .u64 0, .int .u64 0]) := ⟨by kernel_rfl⟩
instance : By Tryd.prog 159 24 := ⟨by kernel_rfl⟩
instance : Und Tryd.prog 160 (Go.TypeDesc.array 24 5) := ⟨Tryd.underlying160⟩
instance : Sz Tryd.prog 160 23 := ⟨by kernel_rfl⟩
instance : Ag Tryd.prog 160 := ⟨by kernel_rfl⟩
instance : Zr Tryd.prog 160 (.agg #[.int .u8 0, .int .u8 0, .int .u8 0, .int .u8 0, .int .u8 0, .int .u8 0, .int .u8 0, .int .u8 0, .int .u8 0, .int .u8 0, .int .u8 0, .int .u8 0, .int .u8 0, .int .u8 0, .int .u8 0, .int .u8 0, .int .u8 0, .int .u8 0, .int .u8 0, .int .u8 0, .int .u8 0, .int .u8 0, .int .u8 0, .int .u8 0]) := ⟨by kernel_rfl⟩
instance : By Tryd.prog 160 24 := ⟨by kernel_rfl⟩
instance : Und Tryd.prog 164 (Go.TypeDesc.unsafePointer) := ⟨Tryd.underlying164⟩
instance : Sz Tryd.prog 164 0 := ⟨by kernel_rfl⟩
instance : Pl Tryd.prog 164 := ⟨by kernel_rfl⟩
instance : Zr Tryd.prog 164 (.pointer none) := ⟨by kernel_rfl⟩
instance : By Tryd.prog 164 8 := ⟨by kernel_rfl⟩
instance : Und Tryd.prog 169 (Go.TypeDesc.array 5 48) := ⟨Tryd.underlying169⟩
instance : Sz Tryd.prog 169 4 := ⟨by kernel_rfl⟩
instance : Ag Tryd.prog 169 := ⟨by kernel_rfl⟩
instance : Zr Tryd.prog 169 (.agg #[.int .u64 0, .int .u64 0, .int .u64 0, .int .u64 0, .int .u64 0]) := ⟨by kernel_rfl⟩
instance : By Tryd.prog 169 40 := ⟨by kernel_rfl⟩
instance : Und Tryd.prog 174 (Go.TypeDesc.array 256 5) := ⟨Tryd.underlying174⟩
instance : Sz Tryd.prog 174 255 := ⟨by kernel_rfl⟩
instance : Ag Tryd.prog 174 := ⟨by kernel_rfl⟩
instance : Zr Tryd.prog 174 (.agg (List.replicate 256 (.int .u8 0)).toArray) := ⟨by kernel_rfl⟩
instance : By Tryd.prog 174 256 := ⟨by kernel_rfl⟩
instance : Und Tryd.prog 176 (Go.TypeDesc.struct #[{ name := "lo", type := 5, offset := 0, embedded := false, tag := "", pkgPath := "unicode/utf8", byteOffset := 0 }, { name := "hi", type := 5, offset := 1, embedded := false, tag := "", pkgPath := "unicode/utf8", byteOffset := 1 }]) := ⟨Tryd.underlying176⟩
instance : Sz Tryd.prog 176 1 := ⟨by kernel_rfl⟩
instance : Ag Tryd.prog 176 := ⟨by kernel_rfl⟩
instance : Zr Tryd.prog 176 (.agg #[.int .u8 0, .int .u8 0]) := ⟨by kernel_rfl⟩
instance : By Tryd.prog 176 2 := ⟨by kernel_rfl⟩
instance : Pc Tryd.prog 176 [(0, 1), (1, 1)] := ⟨by kernel_rfl⟩
instance : Und Tryd.prog 177 (Go.TypeDesc.array 16 176) := ⟨Tryd.underlying177⟩
instance : Sz Tryd.prog 177 31 := ⟨by kernel_rfl⟩
instance : Ag Tryd.prog 177 := ⟨by kernel_rfl⟩
instance : Zr Tryd.prog 177 (.agg #[.int .u8 0, .int .u8 0, .int .u8 0, .int .u8 0, .int .u8 0, .int .u8 0, .int .u8 0, .int .u8 0, .int .u8 0, .int .u8 0, .int .u8 0, .int .u8 0, .int .u8 0, .int .u8 0, .int .u8 0, .int .u8 0, .int .u8 0, .int .u8 0, .int .u8 0, .int .u8 0, .int .u8 0, .int .u8 0, .int .u8 0, .int .u8 0, .int .u8 0, .int .u8 0, .int .u8 0, .int .u8 0, .int .u8 0, .int .u8 0, .int .u8 0, .int .u8 0]) := ⟨by kernel_rfl⟩
instance : By Tryd.prog 177 32 := ⟨by kernel_rfl⟩
instance : Cal Tryd.prog 9 := ⟨Tryd.call9⟩
instance : Cal Tryd.prog 10 := ⟨Tryd.call10⟩
instance : Cal Tryd.prog 11 := ⟨Tryd.call11⟩
instance : Cal Tryd.prog 12 := ⟨Tryd.call12⟩
instance : Cal Tryd.prog 13 := ⟨Tryd.call13⟩
instance : Cal Tryd.prog 14 := ⟨Tryd.call14⟩
instance : Cal Tryd.prog 15 := ⟨Tryd.call15⟩
instance : Cal Tryd.prog 16 := ⟨Tryd.call16⟩
instance : Cal Tryd.prog 17 := ⟨Tryd.call17⟩
instance : Cal Tryd.prog 18 := ⟨Tryd.call18⟩
instance : Cal Tryd.prog 19 := ⟨Tryd.call19⟩
instance : Cal Tryd.prog 20 := ⟨Tryd.call20⟩
instance : Cal Tryd.prog 21 := ⟨Tryd.call21⟩
instance : Cal Tryd.prog 22 := ⟨Tryd.call22⟩
instance : Cal Tryd.prog 23 := ⟨Tryd.call23⟩
instance : Cal Tryd.prog 24 := ⟨Tryd.call24⟩
instance : Cal Tryd.prog 25 := ⟨Tryd.call25⟩
instance : Cal Tryd.prog 26 := ⟨Tryd.call26⟩
instance : Cal Tryd.prog 27 := ⟨Tryd.call27⟩
instance : Cal Tryd.prog 28 := ⟨Tryd.call28⟩
instance : Cal Tryd.prog 29 := ⟨Tryd.call29⟩
instance : Cal Tryd.prog 30 := ⟨Tryd.call30⟩
instance : Cal Tryd.prog 31 := ⟨Tryd.call31⟩
instance : Cal Tryd.prog 32 := ⟨Tryd.call32⟩
instance : Cal Tryd.prog 33 := ⟨Tryd.call33⟩
instance : Cal Tryd.prog 34 := ⟨Tryd.call34⟩
instance : Cal Tryd.prog 35 := ⟨Tryd.call35⟩
instance : Cal Tryd.prog 36 := ⟨Tryd.call36⟩
instance : Cal Tryd.prog 37 := ⟨Tryd.call37⟩
instance : Cal Tryd.prog 38 := ⟨Tryd.call38⟩
instance : Cal Tryd.prog 39 := ⟨Tryd.call39⟩
instance : Cal Tryd.prog 40 := ⟨Tryd.call40⟩
instance : Cal Tryd.prog 41 := ⟨Tryd.call41⟩
instance : Cal Tryd.prog 42 := ⟨Tryd.call42⟩
instance : Cal Tryd.prog 43 := ⟨Tryd.call43⟩
instance : Cal Tryd.prog 44 := ⟨Tryd.call44⟩
instance : Cal Tryd.prog 45 := ⟨Tryd.call45⟩
instance : Cal Tryd.prog 46 := ⟨Tryd.call46⟩
instance : Cal Tryd.prog 47 := ⟨Tryd.call47⟩
instance : Cal Tryd.prog 48 := ⟨Tryd.call48⟩
instance : Cal Tryd.prog 49 := ⟨Tryd.call49⟩
instance : Cal Tryd.prog 50 := ⟨Tryd.call50⟩
instance : Cal Tryd.prog 51 := ⟨Tryd.call51⟩
instance : Cal Tryd.prog 52 := ⟨Tryd.call52⟩
instance : Cal Tryd.prog 53 := ⟨Tryd.call53⟩
instance : Cal Tryd.prog 54 := ⟨Tryd.call54⟩
instance : Cal Tryd.prog 55 := ⟨Tryd.call55⟩
instance : Cal Tryd.prog 56 := ⟨Tryd.call56⟩
instance : Cal Tryd.prog 57 := ⟨Tryd.call57⟩
instance : Cal Tryd.prog 58 := ⟨Tryd.call58⟩
instance : Cal Tryd.prog 59 := ⟨Tryd.call59⟩
instance : Cal Tryd.prog 60 := ⟨Tryd.call60⟩
instance : Cal Tryd.prog 61 := ⟨Tryd.call61⟩
instance : Cal Tryd.prog 62 := ⟨Tryd.call62⟩
instance : Cal Tryd.prog 63 := ⟨Tryd.call63⟩
instance : Cal Tryd.prog 64 := ⟨Tryd.call64⟩
instance : Cal Tryd.prog 65 := ⟨Tryd.call65⟩
instance : Cal Tryd.prog 66 := ⟨Tryd.call66⟩
instance : Cal Tryd.prog 67 := ⟨Tryd.call67⟩
instance : Cal Tryd.prog 68 := ⟨Tryd.call68⟩
instance : Cal Tryd.prog 69 := ⟨Tryd.call69⟩
instance : Cal Tryd.prog 70 := ⟨Tryd.call70⟩
instance : Cal Tryd.prog 71 := ⟨Tryd.call71⟩
instance : Cal Tryd.prog 72 := ⟨Tryd.call72⟩
instance : Cal Tryd.prog 73 := ⟨Tryd.call73⟩
instance : Cal Tryd.prog 74 := ⟨Tryd.call74⟩
instance : Cal Tryd.prog 75 := ⟨Tryd.call75⟩
instance : Cal Tryd.prog 76 := ⟨Tryd.call76⟩
instance : Cal Tryd.prog 77 := ⟨Tryd.call77⟩
instance : Cal Tryd.prog 78 := ⟨Tryd.call78⟩
instance : Cal Tryd.prog 79 := ⟨Tryd.call79⟩
instance : Cal Tryd.prog 80 := ⟨Tryd.call80⟩
instance : Cal Tryd.prog 81 := ⟨Tryd.call81⟩
instance : Cal Tryd.prog 82 := ⟨Tryd.call82⟩
instance : Cal Tryd.prog 83 := ⟨Tryd.call83⟩
instance : Cal Tryd.prog 84 := ⟨Tryd.call84⟩
instance : Cal Tryd.prog 85 := ⟨Tryd.call85⟩
instance : Cal Tryd.prog 86 := ⟨Tryd.call86⟩
instance : Cal Tryd.prog 87 := ⟨Tryd.call87⟩
instance : Cal Tryd.prog 88 := ⟨Tryd.call88⟩
instance : Cal Tryd.prog 89 := ⟨Tryd.call89⟩
instance : Cal Tryd.prog 90 := ⟨Tryd.call90⟩
instance : Cal Tryd.prog 91 := ⟨Tryd.call91⟩
instance : Cal Tryd.prog 92 := ⟨Tryd.call92⟩
instance : Cal Tryd.prog 93 := ⟨Tryd.call93⟩
instance : Cal Tryd.prog 94 := ⟨Tryd.call94⟩
instance : Cal Tryd.prog 95 := ⟨Tryd.call95⟩
instance : Cal Tryd.prog 96 := ⟨Tryd.call96⟩
instance : Cal Tryd.prog 99 := ⟨Tryd.call99⟩
instance : Cal Tryd.prog 100 := ⟨Tryd.call100⟩
instance : Cal Tryd.prog 101 := ⟨Tryd.call101⟩
instance : Cal Tryd.prog 103 := ⟨Tryd.call103⟩
instance : Cal Tryd.prog 104 := ⟨Tryd.call104⟩
instance : Cal Tryd.prog 105 := ⟨Tryd.call105⟩
instance : Cal Tryd.prog 106 := ⟨Tryd.call106⟩
instance : Cal Tryd.prog 108 := ⟨Tryd.call108⟩
instance : Mixed Tryd.prog := ⟨by kernel_rfl⟩
theorem mixed : Tryd.prog.follows .mixedOrders = true := by kernel_rfl

end Go.Proofs.YthbpjjlinebooaaDoor


namespace Go.Proofs.YthbpjjlinebooaaDoor
open Go Pw
set_option maxRecDepth 20000
set_option maxHeartbeats 4000000

def leE : List UInt8 → Nat
  | [] => 0
  | b :: l => b.toNat + 256 * leE l
theorem leE_lt : ∀ l : List UInt8, leE l < 256 ^ l.length
  | [] => by decide
  | b :: l => by
    have h1 := leE_lt l
    have h2 := b.toNat_lt
    rw [leE, List.length_cons, Nat.pow_succ]
    have : (leE l + 1) * 256 ≤ 256 ^ l.length * 256 := Nat.mul_le_mul_right _ h1
    omega
theorem leE_app : ∀ l m : List UInt8, leE (l ++ m) = leE l + 256 ^ l.length * leE m
  | [], m => by simp [leE]
  | b :: l, m => by
    rw [List.cons_append, leE, leE, leE_app l m, List.length_cons, Nat.pow_succ, Nat.mul_add, ← Nat.mul_assoc, Nat.mul_comm 256 (256 ^ l.length)]
    omega
theorem or_add {a b n : Nat} (h : a < 2 ^ n) : a ||| b * 2 ^ n = a + b * 2 ^ n := by
  rw [Nat.mul_comm, Nat.or_comm, ← Nat.two_pow_add_eq_or_of_lt h, Nat.add_comm]
theorem leE_step {l : List UInt8} {i : Nat} (hi : i < l.length) (hl : l.length ≤ 8) : leE (l.take i) ||| (gt l i).toNat * 2 ^ (8 * i) % 18446744073709551616 = leE (l.take (i + 1)) := by
  have h1 := leE_lt (l.take i)
  have hc := (gt l i).toNat_lt
  have h2 : (gt l i).toNat * 2 ^ (8 * i) < 18446744073709551616 := by
    have h3 : 2 ^ (8 * i) ≤ 2 ^ 56 := Nat.pow_le_pow_right (by omega) (by omega)
    have h4 : (gt l i).toNat * 2 ^ (8 * i) ≤ 255 * 2 ^ 56 := Nat.mul_le_mul (by omega) h3
    omega
  rw [Nat.mod_eq_of_lt h2, List.take_add_one, gt_get hi, leE_app]
  rw [List.length_take, Nat.min_eq_left (by omega)] at h1 ⊢
  have e : 256 ^ i = 2 ^ (8 * i) := by rw [Nat.pow_mul]
  rw [e] at h1 ⊢
  rw [or_add h1]
  simp [leE, Nat.mul_comm]
theorem leE_lt64 {l : List UInt8} (h : l.length ≤ 8) : leE l < 18446744073709551616 := by
  have h1 := leE_lt l
  have h2 : 256 ^ l.length ≤ 256 ^ 8 := Nat.pow_le_pow_right (by omega) h
  omega
def leB (x : Nat) : Nat → List UInt8
  | 0 => []
  | n + 1 => leB x n ++ [UInt8.ofNat (x / 2 ^ (8 * n))]
theorem leB_len (x : Nat) : ∀ n, (leB x n).length = n
  | 0 => rfl
  | n + 1 => by rw [leB, List.length_append, leB_len x n]; rfl
instance {n : Nat} : Inv byteV (.int .u8 ((n % 256 : Nat) : Int)) (UInt8.ofNat n) True := ⟨fun _ => by simp [byteV]⟩
theorem may_spec (key nonce : List UInt8) :
    Sat Tryd.prog 53 [str key, str nonce] [] (fun u L' => u = .bool (decide (key.length = 32 ∧ nonce.length = 12)) ∧ L' = []) := by
  all_goals
    refine Sat.enter Tryd.func53 rfl Tryd.ntmps53 rfl (fun c R => ?_)
    try simp only [List.cons_append, List.nil_append]
    repeat' (first
      | exact Fini.mk ⟨by simp [asResult, *], rfl⟩
      | refine And.intro (fun hc => ?_) (fun hc => ?_)
      | refine And.intro ?_ ?_
      | intro b
      | refine stp ?_
      | refine TQ.finC ?_
      | refine TQ.finC2 ?_
      | refine TQ.finC3 ?_
      | refine ⟨fun hc => ?_, fun hc => ?_⟩
      | refine Ei.f ?_
      | refine ⟨?_, ?_⟩
      | intro b
      | fail)
instance {L : List Assn} {key nonce : List UInt8} : FnR Tryd.prog 53 [str key, str nonce] L (fun kk => Vc (True) (kk (.bool (decide (key.length = 32 ∧ nonce.length = 12))) L)) := ⟨fun kk h => ⟨[], L, _, may_spec key nonce, .nil _, fun v L' hq => by rw [hq.1, hq.2]; exact h.r⟩⟩
theorem littleS_spec (l : List UInt8) (hl : l.length ≤ 8) :
    Sat Tryd.prog 93 [str l] [] (fun u L' => u = .int .u64 (leE l : Nat) ∧ L' = []) := by
  all_goals
    refine Sat.enter Tryd.func93 rfl Tryd.ntmps93 rfl (fun c R => ?_)
    try simp only [List.cons_append, List.nil_append]
    repeat' (first
      | (refine T.lpa 0 [(0, _)] (0 : Nat) (fun i => [(2, .int .u64 (leE (l.take i) : Nat)), (6, .int .i64 (i : Nat)), (5, .int .i64 (l.length : Nat))]) (fun _ => []) (fun i => i ≤ l.length) (fun i => l.length - i) (Nat.zero_le _) ?_; intro i g hI; have h64 := leE_lt64 (l := l.take i) (by rw [List.length_take]; omega))
      | refine TQ.rda (i + 1) ?_ ?_ rfl ⟨congrArg vU64 (leE_step hc hl), rfl, rfl, rfl, trivial⟩
      | exact Fini.mk ⟨by (obtain rfl : i = l.length := by omega); rw [List.take_length]; rfl, rfl⟩
      | refine And.intro (fun hc => ?_) (fun hc => ?_)
      | refine And.intro ?_ ?_
      | intro b
      | refine stp ?_
      | refine TQ.finC ?_
      | refine TQ.finC2 ?_
      | refine TQ.finC3 ?_
      | refine ⟨fun hc => ?_, fun hc => ?_⟩
      | refine Ei.f ?_
      | refine ⟨?_, ?_⟩
      | intro b
      | omega
      | (dsimp only; omega)
      | fail)
instance {L : List Assn} {l : List UInt8} : FnR Tryd.prog 93 [str l] L (fun kk => Vc (l.length ≤ 8) (kk (.int .u64 (leE l : Nat)) L)) := ⟨fun kk h => ⟨[], L, _, littleS_spec l h.l, .nil _, fun v L' hq => by rw [hq.1, hq.2]; exact h.r⟩⟩

theorem gt_part {l : List UInt8} {o n i : Nat} (hi : i < n) (h : o + n ≤ l.length) : gt ((l.drop o).take n) i = gt l (o + i) := by
  unfold gt
  simp only [List.getD_eq_getElem?_getD, List.getElem?_take, List.getElem?_drop]
  rw [if_pos hi]
theorem littleR_spec (e : TypeId) (b o n k : Nat) (l : List UInt8) (hn : n ≤ 8) (hl : o + n ≤ l.length) :
    Sat Tryd.prog 90 [.slice (some ⟨b, o, none⟩) n k] [row e b (l.map byteV)] (fun u L' => u = .int .u64 (leE ((l.drop o).take n) : Nat) ∧ L' = [row e b (l.map byteV)]) := by
  all_goals
    refine Sat.enter Tryd.func90 rfl Tryd.ntmps90 rfl (fun c R => ?_)
    try simp only [List.cons_append, List.nil_append]
    repeat' (first
      | (refine T.lpa 0 [(0, _), (5, _)] (0 : Nat) (fun i => [(2, .int .u64 (leE (((l.drop o).take n).take i) : Nat)), (6, .int .i64 (i : Nat))]) (fun _ => []) (fun i => i ≤ n) (fun i => n - i) (Nat.zero_le _) ?_; intro i g hI; have h64 := leE_lt64 (l := ((l.drop o).take n).take i) (by simp only [List.length_take, List.length_drop]; omega))
      | refine TQ.rda (i + 1) ?_ ?_ rfl ⟨(by have h5 := leE_step (l := (l.drop o).take n) (i := i) (by simp only [List.length_take, List.length_drop]; omega) (by simp only [List.length_take, List.length_drop]; omega); rw [gt_part hc hl] at h5; exact congrArg vU64 h5), rfl, rfl, rfl, trivial⟩
      | exact Fini.mk ⟨by (obtain rfl : i = n := by omega); rw [List.take_of_length_le (by simp only [List.length_take]; omega)]; rfl, rfl⟩
      | refine And.intro (fun hc => ?_) (fun hc => ?_)
      | refine And.intro ?_ ?_
      | intro b
      | refine stp ?_
      | refine TQ.finC ?_
      | refine TQ.finC2 ?_
      | refine TQ.finC3 ?_
      | refine ⟨fun hc => ?_, fun hc => ?_⟩
      | refine Ei.f ?_
      | refine ⟨?_, ?_⟩
      | intro b
      | omega
      | (dsimp only; omega)
      | fail)

end Go.Proofs.YthbpjjlinebooaaDoor


namespace Go.Proofs.YthbpjjlinebooaaDoor
open Go Pw
set_option maxRecDepth 20000
set_option maxHeartbeats 4000000

theorem and31 {k : Nat} (h : k ≤ 31) : k &&& 31 = k := by rw [show (31 : Nat) = 2 ^ 5 - 1 from rfl, Nat.and_two_pow_sub_one_eq_mod]; exact Nat.mod_eq_of_lt (by omega)
def rotE (x k : Nat) : Nat := x * 2 ^ k % 4294967296 ||| x / 2 ^ (32 - k)
theorem rotE_lt {x k : Nat} (hx : x < 4294967296) : rotE x k < 4294967296 := Nat.or_lt_two_pow (n := 32) (Nat.mod_lt _ (by decide)) (Nat.lt_of_le_of_lt (Nat.div_le_self _ _) hx)
theorem bytes_spec (xs : List UInt8) (a : Option Addr) (k x n : Nat) (hn : n ≤ 8) (hx : xs.length ≤ 1048576) (hx2 : x < 18446744073709551616) :
    Sat Tryd.prog 74 [.slice a xs.length k, .int .u64 x, .int .i64 n] [sl 5 1 (.slice a xs.length k) xs.length (xs.map byteV)] (fun u L' => ∃ a k, u = .slice a (xs.length + n) k ∧ L' = [sl 5 1 (.slice a (xs.length + n) k) (xs.length + n) ((xs ++ leB x n).map byteV)]) := by
  all_goals
    refine Sat.enter Tryd.func74 rfl Tryd.ntmps74 rfl (fun c R => ?_)
    try simp only [List.cons_append, List.nil_append]
    repeat' (first
      | (refine T.lpa 0 [(1, _), (8, _)] ((0, a, k, xs.length, xs) : Nat × Option Addr × Nat × Nat × List UInt8) (fun s => [(9, .int .i64 (s.1 : Nat)), (0, .slice s.2.1 s.2.2.2.1 s.2.2.1)]) (fun s => [sl 5 1 (.slice s.2.1 s.2.2.2.1 s.2.2.1) s.2.2.2.1 (s.2.2.2.2.map byteV)]) (fun s => s.1 ≤ n ∧ s.2.2.2.1 = xs.length + s.1 ∧ s.2.2.2.2 = xs ++ leB x s.1) (fun s => n - s.1) ⟨Nat.zero_le _, rfl, by simp [leB]⟩ ?_; rintro ⟨i, a, k, m, ys⟩ g ⟨hI, hm, hy⟩; dsimp only at hI hm hy ⊢)
      | (refine TQ.rda (i + 1, _, _, m + 1, ys ++ [UInt8.ofNat (x / 2 ^ (8 * i))]) ?_ ?_; exact ⟨hc, by dsimp only; omega, by dsimp only; rw [hy, leB, List.append_assoc]⟩)
      | (obtain rfl : i = n := (by omega); subst hm hy; exact Fini.mk ⟨_, _, rfl, rfl⟩)
      | refine And.intro (fun hc => ?_) (fun hc => ?_)
      | refine And.intro ?_ ?_
      | intro b
      | refine stp ?_
      | refine TQ.finC ?_
      | refine TQ.finC2 ?_
      | refine TQ.finC3 ?_
      | refine ⟨fun hc => ?_, fun hc => ?_⟩
      | refine Ei.f ?_
      | refine ⟨?_, ?_⟩
      | intro b
      | omega
      | (dsimp only; omega)
      | omega
      | (dsimp only; omega)
      | fail)
instance {L : List Assn} {R : List Assn} {xs : List UInt8} {a : Option Addr} {k x n m : Nat} {y z : Int} [hx : Nn y x] [hz : Nn z n] [hd : SlAt L (.slice a m k) 5 1 m (xs.map byteV) R] : FnR Tryd.prog 74 [.slice a m k, .int .u64 y, .int .i64 z] L (fun q => Vc (n ≤ 8 ∧ m = xs.length ∧ m ≤ 1048576 ∧ x < 18446744073709551616) (∀ a k, q (.slice a (m + n) k) (sl 5 1 (.slice a (m + n) k) (m + n) ((xs ++ leB x n).map byteV) :: R))) := ⟨fun q h => by
    obtain ⟨⟨h1, rfl, h2, h3⟩, h4⟩ := h
    exact ⟨_, R, _, by rw [hx.h, hz.h]; exact bytes_spec xs a k x n h1 h2 h3, Pick.of1 hd.h, fun v L' hq => by obtain ⟨a, k, h5, h6⟩ := hq; rw [h5, h6]; exact h4 a k⟩⟩
theorem rotl_spec (x k : Nat) (hk : k ≤ 31) (hx : x < 4294967296) :
    Sat Tryd.prog 91 [.int .u32 x, .int .i64 k] [] (fun u L' => u = .int .u32 (rotE x k : Nat) ∧ L' = []) := by
  have h31 := and31 hk
  all_goals
    refine Sat.enter Tryd.func91 rfl Tryd.ntmps91 rfl (fun c R => ?_)
    try simp only [List.cons_append, List.nil_append]
    repeat' (first
      | exact Fini.mk ⟨by rw [h31]; rfl, rfl⟩
      | refine And.intro (fun hc => ?_) (fun hc => ?_)
      | refine And.intro ?_ ?_
      | intro b
      | refine stp ?_
      | refine TQ.finC ?_
      | refine TQ.finC2 ?_
      | refine TQ.finC3 ?_
      | refine ⟨fun hc => ?_, fun hc => ?_⟩
      | refine Ei.f ?_
      | refine ⟨?_, ?_⟩
      | intro b
      | omega
      | (dsimp only; omega)
      | omega
      | (dsimp only; omega)
      | fail)
instance {L : List Assn} {x k : Nat} {y z : Int} [hy : Nn y x] [hz : Nn z k] : FnR Tryd.prog 91 [.int .u32 y, .int .i64 z] L (fun kk => Vc (k ≤ 31 ∧ x < 4294967296) (kk (.int .u32 (rotE x k : Nat)) L)) := ⟨fun kk h => ⟨[], L, _, (by rw [hy.h, hz.h]; exact rotl_spec x k h.l.1 h.l.2), .nil _, fun v L' hq => by rw [hq.1, hq.2]; exact h.r⟩⟩

end Go.Proofs.YthbpjjlinebooaaDoor


namespace Go.Proofs.YthbpjjlinebooaaDoor
open Go Pw
set_option maxRecDepth 20000
set_option maxHeartbeats 4000000

instance : IsAdd Tryd.prog 102 := ⟨fun args w => by
  have he : Extern.find Tryd.f102 = some (Extern.MathBitsCarry.rows.head!).2 := by kernel_rfl
  rw [run_callFunc_extern (fn := Tryd.f102) Tryd.func102 (by kernel_rfl) (by kernel_rfl) (by kernel_rfl) he]
  simp⟩
abbrev numV (x : Nat) : List Value := [vU64 (x % 18446744073709551616), vU64 (x / 18446744073709551616 % 18446744073709551616), vU64 (x / 340282366920938463463374607431768211456 % 18446744073709551616)]
theorem dd (x : Nat) : x / 340282366920938463463374607431768211456 = x / 18446744073709551616 / 18446744073709551616 := by rw [Nat.div_div_eq_div_mul]
theorem plus_0 (x y : Nat) : (x % 18446744073709551616 + y % 18446744073709551616 + 0) % 18446744073709551616 = (x + y) % 18446744073709551616 := by omega
theorem plus_c (x y c : Nat) : (x + y + c) / 18446744073709551616 = x / 18446744073709551616 + y / 18446744073709551616 + (x % 18446744073709551616 + y % 18446744073709551616 + c) / 18446744073709551616 := by omega
theorem plus_m (x y c : Nat) : (x % 18446744073709551616 + y % 18446744073709551616 + c) % 18446744073709551616 = (x + y + c) % 18446744073709551616 := by omega
theorem plus_1 (x y : Nat) : (x / 18446744073709551616 % 18446744073709551616 + y / 18446744073709551616 % 18446744073709551616 + (x % 18446744073709551616 + y % 18446744073709551616 + 0) / 18446744073709551616) % 18446744073709551616 = (x + y) / 18446744073709551616 % 18446744073709551616 := by
  rw [plus_m, ← plus_c]; rfl
theorem plus_2 (x y : Nat) : (x / 340282366920938463463374607431768211456 % 18446744073709551616 + y / 340282366920938463463374607431768211456 % 18446744073709551616 + (x / 18446744073709551616 % 18446744073709551616 + y / 18446744073709551616 % 18446744073709551616 + (x % 18446744073709551616 + y % 18446744073709551616 + 0) / 18446744073709551616) / 18446744073709551616) % 18446744073709551616 = (x + y) / 340282366920938463463374607431768211456 % 18446744073709551616 := by
  rw [dd, dd, dd, plus_m, ← plus_c, ← plus_c]; rfl
theorem num_ext {a b c x : Nat} (h1 : a = x % 18446744073709551616) (h2 : b = x / 18446744073709551616 % 18446744073709551616) (h3 : c = x / 340282366920938463463374607431768211456 % 18446744073709551616) : [vU64 a, vU64 b, vU64 c] = numV x := by rw [h1, h2, h3]
theorem plus_spec (x y : Nat) :
    Sat Tryd.prog 94 [.agg (numV x).toArray, .agg (numV y).toArray] [] (fun u L' => u = .agg (numV (x + y)).toArray ∧ L' = []) := by
  all_goals
    refine Sat.enter Tryd.func94 rfl Tryd.ntmps94 rfl (fun c R => ?_)
    try simp only [List.cons_append, List.nil_append]
    repeat' (first
      | refine T.unb 0 3 ?_
      | exact Fini.mk ⟨congrArg (fun z : List Value => Value.agg z.toArray) (num_ext (plus_0 x y) (plus_1 x y) (plus_2 x y)), rfl⟩
      | refine T.pl 5 [8, 13] (.p 0 (.p 1 (.p 2 (.p 4 (.p 5 (.p 7 (.d 3 (.d 6 (.n 8 (.p 9 (.p 10 (.p 11 (.p 12 (.n 13 (.p 14 .fin))))))))))))))) ?_
      | refine And.intro (fun hc => ?_) (fun hc => ?_)
      | refine And.intro ?_ ?_
      | intro b
      | refine stp ?_
      | refine TQ.finC ?_
      | refine TQ.finC2 ?_
      | refine TQ.finC3 ?_
      | refine ⟨fun hc => ?_, fun hc => ?_⟩
      | refine Ei.f ?_
      | refine ⟨?_, ?_⟩
      | intro b
      | omega
      | (dsimp only; omega)
      | omega
      | (dsimp only; omega)
      | fail)

/-- The number that three words are. -/
class NumL (cs : List Value) (x : outParam Nat) (C : outParam Prop) : Prop where h : C → cs = numV x
instance (priority := 1200) {x : Nat} : NumL [vU64 (x % 18446744073709551616), vU64 (x / 18446744073709551616 % 18446744073709551616), vU64 (x / 340282366920938463463374607431768211456 % 18446744073709551616)] x True := ⟨fun _ => rfl⟩
instance {u v w : Int} {a b c : Nat} [hu : Nn u a] [hv : Nn v b] [hw : Nn w c] : NumL [.int .u64 u, .int .u64 v, .int .u64 w] (a + 18446744073709551616 * b + 340282366920938463463374607431768211456 * c) (a < 18446744073709551616 ∧ b < 18446744073709551616 ∧ c < 18446744073709551616) :=
  ⟨fun hc => by rw [hu.h, hv.h, hw.h]; exact num_ext (by omega) (by omega) (by omega)⟩
instance {L : List Assn} {cs ds : List Value} {x y : Nat} {C D : Prop} [h1 : NumL cs x C] [h2 : NumL ds y D] : FnR Tryd.prog 94 [.agg cs.toArray, .agg ds.toArray] L (fun kk => Vc (C ∧ D) (kk (.agg (numV (x + y)).toArray) L)) :=
  ⟨fun kk h => ⟨[], L, _, by rw [h1.h h.l.1, h2.h h.l.2]; exact plus_spec x y, .nil _, fun v L' hq => by rw [hq.1, hq.2]; exact h.r⟩⟩
def foldE (x : Nat) : Nat := x % 1361129467683753853853498429727072845824 + 5 * (x / 1361129467683753853853498429727072845824)
theorem and3 (x : Nat) : x &&& 3 = x % 4 := by rw [show (3 : Nat) = 2 ^ 2 - 1 from rfl, Nat.and_two_pow_sub_one_eq_mod]
theorem fold_eq {x : Nat} (h : x < 1569275433846670190958947355801916604025588861116008628224) : x % 18446744073709551616 + 18446744073709551616 * (x / 18446744073709551616 % 18446744073709551616) + 340282366920938463463374607431768211456 * (x / 340282366920938463463374607431768211456 % 18446744073709551616 &&& 3) + (5 * (x / 340282366920938463463374607431768211456 % 18446744073709551616 / 2 ^ 2) + 18446744073709551616 * 0 + 340282366920938463463374607431768211456 * 0) = foldE x := by
  rw [and3, foldE, dd]; omega
theorem folded_spec (x : Nat) (h : x < 1569275433846670190958947355801916604025588861116008628224) :
    Sat Tryd.prog 96 [.agg (numV x).toArray] [] (fun u L' => u = .agg (numV (foldE x)).toArray ∧ L' = []) := by
  have h3 := and3 (x / 340282366920938463463374607431768211456 % 18446744073709551616)
  all_goals
    refine Sat.enter Tryd.func96 rfl Tryd.ntmps96 rfl (fun c R => ?_)
    try simp only [List.cons_append, List.nil_append]
    repeat' (first
      | exact Fini.mk ⟨by rw [fold_eq h], rfl⟩
      | refine And.intro (fun hc => ?_) (fun hc => ?_)
      | refine And.intro ?_ ?_
      | intro b
      | refine stp ?_
      | refine TQ.finC ?_
      | refine TQ.finC2 ?_
      | refine TQ.finC3 ?_
      | refine ⟨fun hc => ?_, fun hc => ?_⟩
      | refine Ei.f ?_
      | refine ⟨?_, ?_⟩
      | intro b
      | omega
      | (dsimp only; omega)
      | omega
      | (dsimp only; omega)
      | fail)

instance {L : List Assn} {cs : List Value} {x : Nat} {C : Prop} [h1 : NumL cs x C] : FnR Tryd.prog 96 [.agg cs.toArray] L (fun kk => Vc (C ∧ x < 1569275433846670190958947355801916604025588861116008628224) (kk (.agg (numV (foldE x)).toArray) L)) :=
  ⟨fun kk h => ⟨[], L, _, by rw [h1.h h.l.1]; exact folded_spec x h.l.2, .nil _, fun v L' hq => by rw [hq.1, hq.2]; exact h.r⟩⟩

end Go.Proofs.YthbpjjlinebooaaDoor


namespace Go.Proofs.YthbpjjlinebooaaDoor
open Go Pw
set_option maxRecDepth 20000
set_option maxHeartbeats 4000000

theorem and32 (x : Nat) : x &&& 4294967295 = x % 4294967296 := by rw [show (4294967295 : Nat) = 2 ^ 32 - 1 from rfl, Nat.and_two_pow_sub_one_eq_mod]
theorem mul_split (a b c d k : Nat) : (a * k + b) * (c * k + d) = a * c * (k * k) + (a * d + b * c) * k + b * d := by grind
theorem mul_hi (x y : Nat) (hx : x < 18446744073709551616) (hy : y < 18446744073709551616) : ((x / 2 ^ 32 * (y / 2 ^ 32) % 18446744073709551616 + (x / 2 ^ 32 * (y &&& 4294967295) % 18446744073709551616 + (x &&& 4294967295) * (y &&& 4294967295) % 18446744073709551616 / 2 ^ 32) % 18446744073709551616 / 2 ^ 32) % 18446744073709551616 +
    (((x / 2 ^ 32 * (y &&& 4294967295) % 18446744073709551616 + (x &&& 4294967295) * (y &&& 4294967295) % 18446744073709551616 / 2 ^ 32) % 18446744073709551616 &&& 4294967295) + (x &&& 4294967295) * (y / 2 ^ 32) % 18446744073709551616) % 18446744073709551616 / 2 ^ 32) % 18446744073709551616 = x * y / 18446744073709551616 := by
  rw [and32, and32, and32, show (2 : Nat) ^ 32 = 4294967296 from rfl]
  obtain ⟨a, ha⟩ : ∃ a, a = x / 4294967296 := ⟨_, rfl⟩
  obtain ⟨b, hb⟩ : ∃ b, b = x % 4294967296 := ⟨_, rfl⟩
  obtain ⟨c, hc⟩ : ∃ c, c = y / 4294967296 := ⟨_, rfl⟩
  obtain ⟨d, hd⟩ : ∃ d, d = y % 4294967296 := ⟨_, rfl⟩
  have hxe : x = a * 4294967296 + b := by omega
  have hye : y = c * 4294967296 + d := by omega
  rw [← ha, ← hb, ← hc, ← hd]
  have e := mul_split a b c d 4294967296
  rw [← hxe, ← hye] at e
  rw [e]
  have h1 : a * c ≤ 4294967295 * 4294967295 := Nat.mul_le_mul (by omega) (by omega)
  have h2 : a * d ≤ 4294967295 * 4294967295 := Nat.mul_le_mul (by omega) (by omega)
  have h3 : b * c ≤ 4294967295 * 4294967295 := Nat.mul_le_mul (by omega) (by omega)
  have h4 : b * d ≤ 4294967295 * 4294967295 := Nat.mul_le_mul (by omega) (by omega)
  generalize a * c = p at *
  generalize a * d = q at *
  generalize b * c = r at *
  generalize b * d = s at *
  omega
theorem mul64_spec (x y : Nat) (hx : x < 18446744073709551616) (hy : y < 18446744073709551616) :
    Sat Tryd.prog 77 [.int .u64 x, .int .u64 y] [] (fun u L' => u = .tuple #[.int .u64 (x * y / 18446744073709551616 : Nat), .int .u64 (x * y % 18446744073709551616 : Nat)] ∧ L' = []) := by
  all_goals
    refine Sat.enter Tryd.func77 rfl Tryd.ntmps77 rfl (fun c R => ?_)
    try simp only [List.cons_append, List.nil_append]
    repeat' (first
      | exact Fini.mk ⟨by rw [mul_hi x y hx hy]; rfl, rfl⟩
      | refine And.intro (fun hc => ?_) (fun hc => ?_)
      | refine And.intro ?_ ?_
      | intro b
      | refine stp ?_
      | refine TQ.finC ?_
      | refine TQ.finC2 ?_
      | refine TQ.finC3 ?_
      | refine ⟨fun hc => ?_, fun hc => ?_⟩
      | refine Ei.f ?_
      | refine ⟨?_, ?_⟩
      | intro b
      | omega
      | (dsimp only; omega)
      | omega
      | (dsimp only; omega)
      | omega
      | (dsimp only; omega)
      | omega
      | (dsimp only; omega)
      | fail)
instance {L : List Assn} {x y : Nat} {a b : Int} [hx : Nn a x] [hy : Nn b y] : FnR Tryd.prog 77 [.int .u64 a, .int .u64 b] L (fun kk => Vc (x < 18446744073709551616 ∧ y < 18446744073709551616) (kk (.tuple #[.int .u64 (x * y / 18446744073709551616 : Nat), .int .u64 (x * y % 18446744073709551616 : Nat)]) L)) := ⟨fun kk h => ⟨[], L, _, (by rw [hx.h, hy.h]; exact mul64_spec x y h.l.1 h.l.2), .nil _, fun v L' hq => by rw [hq.1, hq.2]; exact h.r⟩⟩

end Go.Proofs.YthbpjjlinebooaaDoor

