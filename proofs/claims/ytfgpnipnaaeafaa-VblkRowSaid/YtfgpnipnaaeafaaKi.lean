/- Lemmas for the proofs of this seat: no statement of the seat is claimed here. -/
import Derived.Test.YtfgpnipnaaeafaaProg
import Derived.Test.YtfgpnipnaaeafaaKc
import Derived.Test.YtfgpnipnaaeafaaKh
import Derived.Test.YtfgpnipnaaeafaaKd
set_option linter.all false

namespace Go.Proofs.Ytfgpnipnaaeafaa
open Go Pw
set_option maxRecDepth 20000
set_option maxHeartbeats 4000000
set_option synthInstance.maxHeartbeats 400000
set_option synthInstance.maxSize 4000
instance : Und Try.prog 3 (Go.TypeDesc.int (Go.IntKind.i64)) := ⟨Try.underlying3⟩
instance : Sz Try.prog 3 0 := ⟨by kernel_rfl⟩
instance : Pl Try.prog 3 := ⟨by kernel_rfl⟩
instance : Zr Try.prog 3 (.int .i64 0) := ⟨by kernel_rfl⟩
instance : By Try.prog 3 8 := ⟨by kernel_rfl⟩
instance : Und Try.prog 4 (Go.TypeDesc.bool) := ⟨Try.underlying4⟩
instance : Sz Try.prog 4 0 := ⟨by kernel_rfl⟩
instance : Pl Try.prog 4 := ⟨by kernel_rfl⟩
instance : Zr Try.prog 4 (.bool false) := ⟨by kernel_rfl⟩
instance : By Try.prog 4 1 := ⟨by kernel_rfl⟩
instance : Und Try.prog 5 (Go.TypeDesc.int (Go.IntKind.u8)) := ⟨Try.underlying5⟩
instance : Sz Try.prog 5 0 := ⟨by kernel_rfl⟩
instance : Pl Try.prog 5 := ⟨by kernel_rfl⟩
instance : Zr Try.prog 5 (.int .u8 0) := ⟨by kernel_rfl⟩
instance : By Try.prog 5 1 := ⟨by kernel_rfl⟩
instance : Und Try.prog 9 (Go.TypeDesc.string) := ⟨Try.underlying9⟩
instance : Sz Try.prog 9 0 := ⟨by kernel_rfl⟩
instance : Pl Try.prog 9 := ⟨by kernel_rfl⟩
instance : Zr Try.prog 9 (.string ⟨#[]⟩) := ⟨by kernel_rfl⟩
instance : By Try.prog 9 16 := ⟨by kernel_rfl⟩
instance : Und Try.prog 20 (Go.TypeDesc.interface #[]) := ⟨Try.underlying20⟩
instance : Sz Try.prog 20 0 := ⟨by kernel_rfl⟩
instance : Pl Try.prog 20 := ⟨by kernel_rfl⟩
instance : Zr Try.prog 20 (.nilIface) := ⟨by kernel_rfl⟩
instance : By Try.prog 20 16 := ⟨by kernel_rfl⟩
instance : Und Try.prog 22 (Go.TypeDesc.slice 43) := ⟨Try.underlying22⟩
instance : Sz Try.prog 22 0 := ⟨by kernel_rfl⟩
instance : Pl Try.prog 22 := ⟨by kernel_rfl⟩
instance : Zr Try.prog 22 (.slice none 0 0) := ⟨by kernel_rfl⟩
instance : By Try.prog 22 24 := ⟨by kernel_rfl⟩
instance : Und Try.prog 25 (Go.TypeDesc.pointer 70) := ⟨Try.underlying25⟩
instance : Sz Try.prog 25 0 := ⟨by kernel_rfl⟩
instance : Pl Try.prog 25 := ⟨by kernel_rfl⟩
instance : Zr Try.prog 25 (.pointer none) := ⟨by kernel_rfl⟩
instance : By Try.prog 25 8 := ⟨by kernel_rfl⟩
instance : Und Try.prog 26 (Go.TypeDesc.int (Go.IntKind.i64)) := ⟨Try.underlying26⟩
instance : Sz Try.prog 26 0 := ⟨by kernel_rfl⟩
instance : Pl Try.prog 26 := ⟨by kernel_rfl⟩
instance : Zr Try.prog 26 (.int .i64 0) := ⟨by kernel_rfl⟩
instance : By Try.prog 26 8 := ⟨by kernel_rfl⟩
instance : Und Try.prog 30 (Go.TypeDesc.int (Go.IntKind.u32)) := ⟨Try.underlying30⟩
instance : Sz Try.prog 30 0 := ⟨by kernel_rfl⟩
instance : Pl Try.prog 30 := ⟨by kernel_rfl⟩
instance : Zr Try.prog 30 (.int .u32 0) := ⟨by kernel_rfl⟩
instance : By Try.prog 30 4 := ⟨by kernel_rfl⟩
instance : Und Try.prog 32 (Go.TypeDesc.struct #[{ name := "Ring", type := 3, offset := 0, embedded := false, tag := "", pkgPath := "", byteOffset := 0 }, { name := "Slots", type := 3, offset := 1, embedded := false, tag := "", pkgPath := "", byteOffset := 8 }, { name := "Blocks", type := 30, offset := 2, embedded := false, tag := "", pkgPath := "", byteOffset := 16 }]) := ⟨Try.underlying32⟩
instance : Sz Try.prog 32 2 := ⟨by kernel_rfl⟩
instance : Ag Try.prog 32 := ⟨by kernel_rfl⟩
instance : Zr Try.prog 32 (.agg #[.int .i64 0, .int .i64 0, .int .u32 0]) := ⟨by kernel_rfl⟩
instance : By Try.prog 32 24 := ⟨by kernel_rfl⟩
instance : Pc Try.prog 32 [(0, 1), (1, 1), (2, 1)] := ⟨by kernel_rfl⟩
instance : Und Try.prog 34 (Go.TypeDesc.pointer 79) := ⟨Try.underlying34⟩
instance : Sz Try.prog 34 0 := ⟨by kernel_rfl⟩
instance : Pl Try.prog 34 := ⟨by kernel_rfl⟩
instance : Zr Try.prog 34 (.pointer none) := ⟨by kernel_rfl⟩
instance : By Try.prog 34 8 := ⟨by kernel_rfl⟩
instance : Und Try.prog 37 (Go.TypeDesc.pointer 84) := ⟨Try.underlying37⟩
instance : Sz Try.prog 37 0 := ⟨by kernel_rfl⟩
instance : Pl Try.prog 37 := ⟨by kernel_rfl⟩
instance : Zr Try.prog 37 (.pointer none) := ⟨by kernel_rfl⟩
instance : By Try.prog 37 8 := ⟨by kernel_rfl⟩
instance : Und Try.prog 39 (Go.TypeDesc.int (Go.IntKind.u16)) := ⟨Try.underlying39⟩
instance : Sz Try.prog 39 0 := ⟨by kernel_rfl⟩
instance : Pl Try.prog 39 := ⟨by kernel_rfl⟩
instance : Zr Try.prog 39 (.int .u16 0) := ⟨by kernel_rfl⟩
instance : By Try.prog 39 2 := ⟨by kernel_rfl⟩
instance : Und Try.prog 40 (Go.TypeDesc.slice 30) := ⟨Try.underlying40⟩
instance : Sz Try.prog 40 0 := ⟨by kernel_rfl⟩
instance : Pl Try.prog 40 := ⟨by kernel_rfl⟩
instance : Zr Try.prog 40 (.slice none 0 0) := ⟨by kernel_rfl⟩
instance : By Try.prog 40 24 := ⟨by kernel_rfl⟩
instance : Und Try.prog 41 (Go.TypeDesc.slice 9) := ⟨Try.underlying41⟩
instance : Sz Try.prog 41 0 := ⟨by kernel_rfl⟩
instance : Pl Try.prog 41 := ⟨by kernel_rfl⟩
instance : Zr Try.prog 41 (.slice none 0 0) := ⟨by kernel_rfl⟩
instance : By Try.prog 41 24 := ⟨by kernel_rfl⟩
instance : Und Try.prog 43 (Go.TypeDesc.struct #[{ name := "Do", type := 3, offset := 0, embedded := false, tag := "", pkgPath := "", byteOffset := 0 }, { name := "X", type := 30, offset := 1, embedded := false, tag := "", pkgPath := "", byteOffset := 8 }, { name := "N", type := 5, offset := 2, embedded := false, tag := "", pkgPath := "", byteOffset := 12 }, { name := "Status", type := 5, offset := 3, embedded := false, tag := "", pkgPath := "", byteOffset := 13 }, { name := "At", type := 30, offset := 4, embedded := false, tag := "", pkgPath := "", byteOffset := 16 }, { name := "S", type := 9, offset := 5, embedded := false, tag := "", pkgPath := "", byteOffset := 24 }]) := ⟨Try.underlying43⟩
instance : Sz Try.prog 43 5 := ⟨by kernel_rfl⟩
instance : Ag Try.prog 43 := ⟨by kernel_rfl⟩
instance : Zr Try.prog 43 (.agg #[.int .i64 0, .int .u32 0, .int .u8 0, .int .u8 0, .int .u32 0, .string ⟨#[]⟩]) := ⟨by kernel_rfl⟩
instance : By Try.prog 43 40 := ⟨by kernel_rfl⟩
instance : Pc Try.prog 43 [(0, 1), (1, 1), (2, 1), (3, 1), (4, 1), (5, 1)] := ⟨by kernel_rfl⟩
instance : Und Try.prog 52 (Go.TypeDesc.slice 56) := ⟨Try.underlying52⟩
instance : Sz Try.prog 52 0 := ⟨by kernel_rfl⟩
instance : Pl Try.prog 52 := ⟨by kernel_rfl⟩
instance : Zr Try.prog 52 (.slice none 0 0) := ⟨by kernel_rfl⟩
instance : By Try.prog 52 24 := ⟨by kernel_rfl⟩
instance : Und Try.prog 56 (Go.TypeDesc.struct #[{ name := "ID", type := 30, offset := 0, embedded := false, tag := "", pkgPath := "", byteOffset := 0 }, { name := "Block", type := 30, offset := 1, embedded := false, tag := "", pkgPath := "", byteOffset := 4 }, { name := "Data", type := 9, offset := 2, embedded := false, tag := "", pkgPath := "", byteOffset := 8 }, { name := "Err", type := 26, offset := 3, embedded := false, tag := "", pkgPath := "", byteOffset := 24 }]) := ⟨Try.underlying56⟩
instance : Sz Try.prog 56 3 := ⟨by kernel_rfl⟩
instance : Ag Try.prog 56 := ⟨by kernel_rfl⟩
instance : Zr Try.prog 56 (.agg #[.int .u32 0, .int .u32 0, .string ⟨#[]⟩, .int .i64 0]) := ⟨by kernel_rfl⟩
instance : By Try.prog 56 32 := ⟨by kernel_rfl⟩
instance : Pc Try.prog 56 [(0, 1), (1, 1), (2, 1), (3, 1)] := ⟨by kernel_rfl⟩
instance : Und Try.prog 59 (Go.TypeDesc.slice 5) := ⟨Try.underlying59⟩
instance : Sz Try.prog 59 0 := ⟨by kernel_rfl⟩
instance : Pl Try.prog 59 := ⟨by kernel_rfl⟩
instance : Zr Try.prog 59 (.slice none 0 0) := ⟨by kernel_rfl⟩
instance : By Try.prog 59 24 := ⟨by kernel_rfl⟩
instance : Und Try.prog 60 (Go.TypeDesc.slice 39) := ⟨Try.underlying60⟩
instance : Sz Try.prog 60 0 := ⟨by kernel_rfl⟩
instance : Pl Try.prog 60 := ⟨by kernel_rfl⟩
instance : Zr Try.prog 60 (.slice none 0 0) := ⟨by kernel_rfl⟩
instance : By Try.prog 60 24 := ⟨by kernel_rfl⟩
instance : Und Try.prog 63 (Go.TypeDesc.int (Go.IntKind.u64)) := ⟨Try.underlying63⟩
instance : Sz Try.prog 63 0 := ⟨by kernel_rfl⟩
instance : Pl Try.prog 63 := ⟨by kernel_rfl⟩
instance : Zr Try.prog 63 (.int .u64 0) := ⟨by kernel_rfl⟩
instance : By Try.prog 63 8 := ⟨by kernel_rfl⟩
instance : Und Try.prog 68 (Go.TypeDesc.slice 110) := ⟨Try.underlying68⟩
instance : Sz Try.prog 68 0 := ⟨by kernel_rfl⟩
instance : Pl Try.prog 68 := ⟨by kernel_rfl⟩
instance : Zr Try.prog 68 (.slice none 0 0) := ⟨by kernel_rfl⟩
instance : By Try.prog 68 24 := ⟨by kernel_rfl⟩
instance : Und Try.prog 70 (Go.TypeDesc.struct #[{ name := "bytes", type := 59, offset := 0, embedded := false, tag := "", pkgPath := "pharos/mem", byteOffset := 0 }, { name := "lent", type := 68, offset := 1, embedded := false, tag := "", pkgPath := "pharos/mem", byteOffset := 24 }]) := ⟨Try.underlying70⟩
instance : Sz Try.prog 70 1 := ⟨by kernel_rfl⟩
instance : Ag Try.prog 70 := ⟨by kernel_rfl⟩
instance : Zr Try.prog 70 (.agg #[.slice none 0 0, .slice none 0 0]) := ⟨by kernel_rfl⟩
instance : By Try.prog 70 48 := ⟨by kernel_rfl⟩
instance : Pc Try.prog 70 [(0, 1), (1, 1)] := ⟨by kernel_rfl⟩
instance : Und Try.prog 74 (Go.TypeDesc.pointer 112) := ⟨Try.underlying74⟩
instance : Sz Try.prog 74 0 := ⟨by kernel_rfl⟩
instance : Pl Try.prog 74 := ⟨by kernel_rfl⟩
instance : Zr Try.prog 74 (.pointer none) := ⟨by kernel_rfl⟩
instance : By Try.prog 74 8 := ⟨by kernel_rfl⟩
instance : Und Try.prog 77 (Go.TypeDesc.map 39 94) := ⟨Try.underlying77⟩
instance : Sz Try.prog 77 0 := ⟨by kernel_rfl⟩
instance : Pl Try.prog 77 := ⟨by kernel_rfl⟩
instance : Zr Try.prog 77 (.map none) := ⟨by kernel_rfl⟩
instance : By Try.prog 77 8 := ⟨by kernel_rfl⟩
instance : Und Try.prog 79 (Go.TypeDesc.struct #[{ name := "m", type := 25, offset := 0, embedded := false, tag := "", pkgPath := "pharos/vblk", byteOffset := 0 }, { name := "ring", type := 37, offset := 1, embedded := false, tag := "", pkgPath := "pharos/vblk", byteOffset := 8 }, { name := "pool", type := 74, offset := 2, embedded := false, tag := "", pkgPath := "pharos/vblk", byteOffset := 16 }, { name := "blocks", type := 30, offset := 3, embedded := false, tag := "", pkgPath := "pharos/vblk", byteOffset := 24 }, { name := "asks", type := 77, offset := 4, embedded := false, tag := "", pkgPath := "pharos/vblk", byteOffset := 32 }, { name := "next", type := 30, offset := 5, embedded := false, tag := "", pkgPath := "pharos/vblk", byteOffset := 40 }, { name := "failed", type := 4, offset := 6, embedded := false, tag := "", pkgPath := "pharos/vblk", byteOffset := 44 }]) := ⟨Try.underlying79⟩
instance : Sz Try.prog 79 6 := ⟨by kernel_rfl⟩
instance : Ag Try.prog 79 := ⟨by kernel_rfl⟩
instance : Zr Try.prog 79 (.agg #[.pointer none, .pointer none, .pointer none, .int .u32 0, .map none, .int .u32 0, .bool false]) := ⟨by kernel_rfl⟩
instance : By Try.prog 79 48 := ⟨by kernel_rfl⟩
instance : Pc Try.prog 79 [(0, 1), (1, 1), (2, 1), (3, 1), (4, 1), (5, 1), (6, 1)] := ⟨by kernel_rfl⟩
instance : Und Try.prog 81 (Go.TypeDesc.map 39 118) := ⟨Try.underlying81⟩
instance : Sz Try.prog 81 0 := ⟨by kernel_rfl⟩
instance : Pl Try.prog 81 := ⟨by kernel_rfl⟩
instance : Zr Try.prog 81 (.map none) := ⟨by kernel_rfl⟩
instance : By Try.prog 81 8 := ⟨by kernel_rfl⟩
instance : Und Try.prog 82 (Go.TypeDesc.slice 4) := ⟨Try.underlying82⟩
instance : Sz Try.prog 82 0 := ⟨by kernel_rfl⟩
instance : Pl Try.prog 82 := ⟨by kernel_rfl⟩
instance : Zr Try.prog 82 (.slice none 0 0) := ⟨by kernel_rfl⟩
instance : By Try.prog 82 24 := ⟨by kernel_rfl⟩
instance : Und Try.prog 84 (Go.TypeDesc.struct #[{ name := "m", type := 25, offset := 0, embedded := false, tag := "", pkgPath := "pharos/ring", byteOffset := 0 }, { name := "at", type := 30, offset := 1, embedded := false, tag := "", pkgPath := "pharos/ring", byteOffset := 8 }, { name := "size", type := 3, offset := 2, embedded := false, tag := "", pkgPath := "pharos/ring", byteOffset := 16 }, { name := "chains", type := 81, offset := 3, embedded := false, tag := "", pkgPath := "pharos/ring", byteOffset := 24 }, { name := "taken", type := 82, offset := 4, embedded := false, tag := "", pkgPath := "pharos/ring", byteOffset := 32 }, { name := "next", type := 39, offset := 5, embedded := false, tag := "", pkgPath := "pharos/ring", byteOffset := 56 }, { name := "last", type := 39, offset := 6, embedded := false, tag := "", pkgPath := "pharos/ring", byteOffset := 58 }, { name := "broken", type := 4, offset := 7, embedded := false, tag := "", pkgPath := "pharos/ring", byteOffset := 60 }]) := ⟨Try.underlying84⟩
instance : Sz Try.prog 84 7 := ⟨by kernel_rfl⟩
instance : Ag Try.prog 84 := ⟨by kernel_rfl⟩
instance : Zr Try.prog 84 (.agg #[.pointer none, .int .u32 0, .int .i64 0, .map none, .slice none 0 0, .int .u16 0, .int .u16 0, .bool false]) := ⟨by kernel_rfl⟩
instance : By Try.prog 84 64 := ⟨by kernel_rfl⟩
instance : Pc Try.prog 84 [(0, 1), (1, 1), (2, 1), (3, 1), (4, 1), (5, 1), (6, 1), (7, 1)] := ⟨by kernel_rfl⟩
instance : Und Try.prog 90 (Go.TypeDesc.struct #[{ name := "At", type := 30, offset := 0, embedded := false, tag := "", pkgPath := "", byteOffset := 0 }, { name := "Len", type := 30, offset := 1, embedded := false, tag := "", pkgPath := "", byteOffset := 4 }, { name := "In", type := 4, offset := 2, embedded := false, tag := "", pkgPath := "", byteOffset := 8 }]) := ⟨Try.underlying90⟩
instance : Sz Try.prog 90 2 := ⟨by kernel_rfl⟩
instance : Ag Try.prog 90 := ⟨by kernel_rfl⟩
instance : Zr Try.prog 90 (.agg #[.int .u32 0, .int .u32 0, .bool false]) := ⟨by kernel_rfl⟩
instance : By Try.prog 90 12 := ⟨by kernel_rfl⟩
instance : Pc Try.prog 90 [(0, 1), (1, 1), (2, 1)] := ⟨by kernel_rfl⟩
instance : Und Try.prog 91 (Go.TypeDesc.slice 90) := ⟨Try.underlying91⟩
instance : Sz Try.prog 91 0 := ⟨by kernel_rfl⟩
instance : Pl Try.prog 91 := ⟨by kernel_rfl⟩
instance : Zr Try.prog 91 (.slice none 0 0) := ⟨by kernel_rfl⟩
instance : By Try.prog 91 24 := ⟨by kernel_rfl⟩
instance : Und Try.prog 94 (Go.TypeDesc.struct #[{ name := "id", type := 30, offset := 0, embedded := false, tag := "", pkgPath := "pharos/vblk", byteOffset := 0 }, { name := "block", type := 30, offset := 1, embedded := false, tag := "", pkgPath := "pharos/vblk", byteOffset := 4 }, { name := "at", type := 30, offset := 2, embedded := false, tag := "", pkgPath := "pharos/vblk", byteOffset := 8 }]) := ⟨Try.underlying94⟩
instance : Sz Try.prog 94 2 := ⟨by kernel_rfl⟩
instance : Ag Try.prog 94 := ⟨by kernel_rfl⟩
instance : Zr Try.prog 94 (.agg #[.int .u32 0, .int .u32 0, .int .u32 0]) := ⟨by kernel_rfl⟩
instance : By Try.prog 94 12 := ⟨by kernel_rfl⟩
instance : Pc Try.prog 94 [(0, 1), (1, 1), (2, 1)] := ⟨by kernel_rfl⟩
instance : Und Try.prog 99 (Go.TypeDesc.struct #[]) := ⟨Try.underlying99⟩
instance : Ag Try.prog 99 := ⟨by kernel_rfl⟩
instance : Zr Try.prog 99 (.agg #[]) := ⟨by kernel_rfl⟩
instance : By Try.prog 99 0 := ⟨by kernel_rfl⟩
instance : Pc Try.prog 99 [] := ⟨by kernel_rfl⟩
instance : Und Try.prog 107 (Go.TypeDesc.int (Go.IntKind.u64)) := ⟨Try.underlying107⟩
instance : Sz Try.prog 107 0 := ⟨by kernel_rfl⟩
instance : Pl Try.prog 107 := ⟨by kernel_rfl⟩
instance : Zr Try.prog 107 (.int .u64 0) := ⟨by kernel_rfl⟩
instance : By Try.prog 107 8 := ⟨by kernel_rfl⟩
instance : Und Try.prog 110 (Go.TypeDesc.struct #[{ name := "At", type := 30, offset := 0, embedded := false, tag := "", pkgPath := "", byteOffset := 0 }, { name := "Len", type := 30, offset := 1, embedded := false, tag := "", pkgPath := "", byteOffset := 4 }]) := ⟨Try.underlying110⟩
instance : Sz Try.prog 110 1 := ⟨by kernel_rfl⟩
instance : Ag Try.prog 110 := ⟨by kernel_rfl⟩
instance : Zr Try.prog 110 (.agg #[.int .u32 0, .int .u32 0]) := ⟨by kernel_rfl⟩
instance : By Try.prog 110 8 := ⟨by kernel_rfl⟩
instance : Pc Try.prog 110 [(0, 1), (1, 1)] := ⟨by kernel_rfl⟩
instance : Und Try.prog 112 (Go.TypeDesc.struct #[{ name := "Mem", type := 25, offset := 0, embedded := true, tag := "", pkgPath := "", byteOffset := 0 }, { name := "at", type := 30, offset := 1, embedded := false, tag := "", pkgPath := "pharos/mem", byteOffset := 8 }, { name := "size", type := 3, offset := 2, embedded := false, tag := "", pkgPath := "pharos/mem", byteOffset := 16 }, { name := "whose", type := 59, offset := 3, embedded := false, tag := "", pkgPath := "pharos/mem", byteOffset := 24 }]) := ⟨Try.underlying112⟩
instance : Sz Try.prog 112 3 := ⟨by kernel_rfl⟩
instance : Ag Try.prog 112 := ⟨by kernel_rfl⟩
instance : Zr Try.prog 112 (.agg #[.pointer none, .int .u32 0, .int .i64 0, .slice none 0 0]) := ⟨by kernel_rfl⟩
instance : By Try.prog 112 48 := ⟨by kernel_rfl⟩
instance : Pc Try.prog 112 [(0, 1), (1, 1), (2, 1), (3, 1)] := ⟨by kernel_rfl⟩
instance : Und Try.prog 118 (Go.TypeDesc.struct #[{ name := "desc", type := 60, offset := 0, embedded := false, tag := "", pkgPath := "pharos/ring", byteOffset := 0 }, { name := "bufs", type := 91, offset := 1, embedded := false, tag := "", pkgPath := "pharos/ring", byteOffset := 24 }]) := ⟨Try.underlying118⟩
instance : Sz Try.prog 118 1 := ⟨by kernel_rfl⟩
instance : Ag Try.prog 118 := ⟨by kernel_rfl⟩
instance : Zr Try.prog 118 (.agg #[.slice none 0 0, .slice none 0 0]) := ⟨by kernel_rfl⟩
instance : By Try.prog 118 48 := ⟨by kernel_rfl⟩
instance : Pc Try.prog 118 [(0, 1), (1, 1)] := ⟨by kernel_rfl⟩
instance : Und Try.prog 125 (Go.TypeDesc.slice 94) := ⟨Try.underlying125⟩
instance : Sz Try.prog 125 0 := ⟨by kernel_rfl⟩
instance : Pl Try.prog 125 := ⟨by kernel_rfl⟩
instance : Zr Try.prog 125 (.slice none 0 0) := ⟨by kernel_rfl⟩
instance : By Try.prog 125 24 := ⟨by kernel_rfl⟩
instance : Und Try.prog 132 (Go.TypeDesc.struct #[{ name := "Head", type := 39, offset := 0, embedded := false, tag := "", pkgPath := "", byteOffset := 0 }, { name := "Len", type := 30, offset := 1, embedded := false, tag := "", pkgPath := "", byteOffset := 4 }]) := ⟨Try.underlying132⟩
instance : Sz Try.prog 132 1 := ⟨by kernel_rfl⟩
instance : Ag Try.prog 132 := ⟨by kernel_rfl⟩
instance : Zr Try.prog 132 (.agg #[.int .u16 0, .int .u32 0]) := ⟨by kernel_rfl⟩
instance : By Try.prog 132 8 := ⟨by kernel_rfl⟩
instance : Pc Try.prog 132 [(0, 1), (1, 1)] := ⟨by kernel_rfl⟩
instance : Und Try.prog 157 (Go.TypeDesc.int (Go.IntKind.i64)) := ⟨Try.underlying157⟩
instance : Sz Try.prog 157 0 := ⟨by kernel_rfl⟩
instance : Pl Try.prog 157 := ⟨by kernel_rfl⟩
instance : Zr Try.prog 157 (.int .i64 0) := ⟨by kernel_rfl⟩
instance : By Try.prog 157 8 := ⟨by kernel_rfl⟩
instance : Und Try.prog 166 (Go.TypeDesc.int (Go.IntKind.u64)) := ⟨Try.underlying166⟩
instance : Sz Try.prog 166 0 := ⟨by kernel_rfl⟩
instance : Pl Try.prog 166 := ⟨by kernel_rfl⟩
instance : Zr Try.prog 166 (.int .u64 0) := ⟨by kernel_rfl⟩
instance : By Try.prog 166 8 := ⟨by kernel_rfl⟩
instance : Cal Try.prog 6 := ⟨Try.call6⟩
instance : Cal Try.prog 7 := ⟨Try.call7⟩
instance : Cal Try.prog 8 := ⟨Try.call8⟩
instance : Cal Try.prog 9 := ⟨Try.call9⟩
instance : Cal Try.prog 10 := ⟨Try.call10⟩
instance : Cal Try.prog 11 := ⟨Try.call11⟩
instance : Cal Try.prog 12 := ⟨Try.call12⟩
instance : Cal Try.prog 13 := ⟨Try.call13⟩
instance : Cal Try.prog 14 := ⟨Try.call14⟩
instance : Cal Try.prog 15 := ⟨Try.call15⟩
instance : Cal Try.prog 16 := ⟨Try.call16⟩
instance : Cal Try.prog 17 := ⟨Try.call17⟩
instance : Cal Try.prog 18 := ⟨Try.call18⟩
instance : Cal Try.prog 19 := ⟨Try.call19⟩
instance : Cal Try.prog 20 := ⟨Try.call20⟩
instance : Cal Try.prog 21 := ⟨Try.call21⟩
instance : Cal Try.prog 22 := ⟨Try.call22⟩
instance : Cal Try.prog 23 := ⟨Try.call23⟩
instance : Cal Try.prog 24 := ⟨Try.call24⟩
instance : Cal Try.prog 25 := ⟨Try.call25⟩
instance : Cal Try.prog 26 := ⟨Try.call26⟩
instance : Cal Try.prog 27 := ⟨Try.call27⟩
instance : Cal Try.prog 28 := ⟨Try.call28⟩
instance : Cal Try.prog 29 := ⟨Try.call29⟩
instance : Cal Try.prog 30 := ⟨Try.call30⟩
instance : Cal Try.prog 31 := ⟨Try.call31⟩
instance : Cal Try.prog 32 := ⟨Try.call32⟩
instance : Cal Try.prog 33 := ⟨Try.call33⟩
instance : Cal Try.prog 34 := ⟨Try.call34⟩
instance : Cal Try.prog 35 := ⟨Try.call35⟩
instance : Cal Try.prog 36 := ⟨Try.call36⟩
instance : Cal Try.prog 37 := ⟨Try.call37⟩
instance : Cal Try.prog 38 := ⟨Try.call38⟩
instance : Cal Try.prog 39 := ⟨Try.call39⟩
instance : Cal Try.prog 40 := ⟨Try.call40⟩
instance : Cal Try.prog 41 := ⟨Try.call41⟩
instance : Cal Try.prog 42 := ⟨Try.call42⟩
instance : Cal Try.prog 43 := ⟨Try.call43⟩
instance : Cal Try.prog 44 := ⟨Try.call44⟩
instance : Cal Try.prog 45 := ⟨Try.call45⟩
instance : Cal Try.prog 46 := ⟨Try.call46⟩
instance : Cal Try.prog 47 := ⟨Try.call47⟩
instance : Cal Try.prog 48 := ⟨Try.call48⟩
instance : Cal Try.prog 49 := ⟨Try.call49⟩
instance : Cal Try.prog 50 := ⟨Try.call50⟩
instance : Cal Try.prog 51 := ⟨Try.call51⟩
instance : Cal Try.prog 52 := ⟨Try.call52⟩
instance : Cal Try.prog 53 := ⟨Try.call53⟩
instance : Cal Try.prog 54 := ⟨Try.call54⟩
instance : Cal Try.prog 55 := ⟨Try.call55⟩
instance : Cal Try.prog 56 := ⟨Try.call56⟩
instance : Cal Try.prog 57 := ⟨Try.call57⟩
instance : Cal Try.prog 58 := ⟨Try.call58⟩
instance : Cal Try.prog 59 := ⟨Try.call59⟩
instance : Cal Try.prog 60 := ⟨Try.call60⟩
instance : Cal Try.prog 61 := ⟨Try.call61⟩
instance : Cal Try.prog 62 := ⟨Try.call62⟩
instance : Cal Try.prog 63 := ⟨Try.call63⟩
instance : Cal Try.prog 64 := ⟨Try.call64⟩
instance : Cal Try.prog 65 := ⟨Try.call65⟩
instance : Cal Try.prog 66 := ⟨Try.call66⟩
instance : Cal Try.prog 67 := ⟨Try.call67⟩
instance : Cal Try.prog 68 := ⟨Try.call68⟩
instance : Cal Try.prog 69 := ⟨Try.call69⟩
instance : Cal Try.prog 70 := ⟨Try.call70⟩
instance : Cal Try.prog 71 := ⟨Try.call71⟩
instance : Cal Try.prog 72 := ⟨Try.call72⟩
instance : Cal Try.prog 73 := ⟨Try.call73⟩
instance : Cal Try.prog 74 := ⟨Try.call74⟩
instance : Cal Try.prog 75 := ⟨Try.call75⟩
instance : Cal Try.prog 76 := ⟨Try.call76⟩
instance : Cal Try.prog 77 := ⟨Try.call77⟩
instance : Cal Try.prog 78 := ⟨Try.call78⟩
instance : Cal Try.prog 80 := ⟨Try.call80⟩
instance : Cal Try.prog 81 := ⟨Try.call81⟩
instance : Cal Try.prog 82 := ⟨Try.call82⟩
instance : Cal Try.prog 83 := ⟨Try.call83⟩
instance : Cal Try.prog 84 := ⟨Try.call84⟩
instance : Cal Try.prog 85 := ⟨Try.call85⟩
instance : Cal Try.prog 86 := ⟨Try.call86⟩
instance : Cal Try.prog 87 := ⟨Try.call87⟩
instance : Cal Try.prog 88 := ⟨Try.call88⟩
instance : Cal Try.prog 89 := ⟨Try.call89⟩
instance : Cal Try.prog 90 := ⟨Try.call90⟩
instance : Cal Try.prog 91 := ⟨Try.call91⟩
instance : Cal Try.prog 92 := ⟨Try.call92⟩
instance : Cal Try.prog 93 := ⟨Try.call93⟩
instance : Cal Try.prog 94 := ⟨Try.call94⟩
instance : Cal Try.prog 95 := ⟨Try.call95⟩
instance : Cal Try.prog 96 := ⟨Try.call96⟩
instance : Cal Try.prog 97 := ⟨Try.call97⟩
instance : Cal Try.prog 98 := ⟨Try.call98⟩
instance : Cal Try.prog 99 := ⟨Try.call99⟩
instance : Cal Try.prog 100 := ⟨Try.call100⟩
instance : Cal Try.prog 101 := ⟨Try.call101⟩
instance : Cal Try.prog 102 := ⟨Try.call102⟩
instance : Cal Try.prog 103 := ⟨Try.call103⟩
instance : Mixed Try.prog := ⟨by kernel_rfl⟩

end Go.Proofs.Ytfgpnipnaaeafaa


namespace Go.Proofs.Ytfgpnipnaaeafaa
open Go Pw
set_option maxHeartbeats 1000000
/-! The memory, the pool, of the program and of the reference: each as one thing; what each call makes of it. -/
def memA (p : Nat) (bs : List UInt8) (lt : List Bool) : Assn :=
  exA (fun x : Nat × Value × List Spn => bs.length ≤ 1048576 ∧ Canon 0 bs.length x.2.2 ∧ lt = flags bs.length x.2.2)
    fun x => [row 70 p [.slice (some ⟨x.1, 0, none⟩) bs.length bs.length, x.2.1], row 5 x.1 (bs.map byteV), sl 110 2 x.2.1 x.2.2.length (spans x.2.2)]
structure PoolOk (at0 sz : Nat) (wh : List UInt8) (n : Nat) : Prop where
  h0 : at0 < 4294967296
  hz : 0 < sz
  hz2 : sz ≤ 1048576
  hc : wh.length ≤ 256
  hn : at0 + wh.length * sz ≤ n
  hn2 : n ≤ 1048576
theorem PoolOk.set {at0 sz n : Nat} {wh : List UInt8} (h : PoolOk at0 sz wh n) (k : Nat) (x : UInt8) : PoolOk at0 sz (wh.set k x) n :=
  ⟨h.h0, h.hz, h.hz2, by simpa using h.hc, by simpa using h.hn, h.hn2⟩
theorem canon_facts {n : Nat} {ss : List Spn} (h : Canon 0 n ss) (hn : n ≤ 1048576) : ss.length ≤ 1048576 ∧ ∀ s ∈ ss, s.1 + s.2 ≤ 1048576 := by
  constructor
  · cases ss with
    | nil => simp
    | cons x t =>
      obtain ⟨h1, h2, h3, h4⟩ := h
      have := h4.len (by omega)
      simp only [List.length_cons]; omega
  · intro s hs
    have := h.ge s hs; omega
/-- The buffer of a place. -/
def findK (at0 sz cnt at_ : Nat) : Option Nat := (List.range cnt).find? fun k => at_ == at0 + k * sz
theorem findK_some {at0 sz cnt at_ k : Nat} (h : findK at0 sz cnt at_ = some k) : k < cnt ∧ at_ = at0 + k * sz := by
  have h1 := List.mem_of_find?_eq_some h
  have h2 := List.find?_some h
  exact ⟨by simpa using h1, by simpa using h2⟩
theorem findK_none {at0 sz cnt at_ : Nat} (h : findK at0 sz cnt at_ = none) : ∀ k, k < cnt → at_ ≠ at0 + k * sz := fun k hk he => by
  have := List.find?_eq_none.1 h k (by simpa using hk)
  simp [he] at this
theorem findK_at {at0 sz cnt k : Nat} (hz : 0 < sz) (hk : k < cnt) : findK at0 sz cnt (at0 + k * sz) = some k := by
  cases h : findK at0 sz cnt (at0 + k * sz) with
  | none => exact absurd rfl (findK_none h k hk)
  | some j =>
    have := (findK_some h).2
    have h2 : k * sz = j * sz := by omega
    rw [Nat.eq_of_mul_eq_mul_right hz h2]
def wAt (wh : List UInt8) (k : Nat) : UInt8 := wh[k]?.getD 0
theorem wAt_eq {wh : List UInt8} {k : Nat} (hk : k < wh.length) : wh[k]? = some (wAt wh k) := by simp [wAt, hk]
def getE (at0 sz : Nat) (wh : List UInt8) : (Nat × Nat) × List UInt8 := match wh.findIdx? (· == 0) with
  | some k => ((at0 + k * sz, 0), wh.set k 1)
  | none => ((0, 6), wh)
def pputE (at0 sz : Nat) (wh : List UInt8) (at_ : Nat) : Nat × List UInt8 := match findK at0 sz wh.length at_ with
  | none => (2, wh)
  | some k => if wAt wh k = 1 then (0, wh.set k 0) else (3, wh)
def ptE (fr to : UInt8) (x : Bool) (e : Nat) (at0 sz : Nat) (wh : List UInt8) (lt : List Bool) (at_ : Nat) : Nat × List UInt8 × List Bool := match findK at0 sz wh.length at_ with
  | none => (2, wh, lt)
  | some k => if wAt wh k = fr then (if allB lt at_ sz (!x) = true then (0, wh.set k to, fillB lt at_ sz x) else (e, wh, lt)) else (3, wh, lt)
def whoseE (at0 sz : Nat) (wh : List UInt8) (at_ : Nat) : UInt8 × Nat := match findK at0 sz wh.length at_ with
  | none => (0, 2)
  | some k => (wAt wh k, 0)
theorem getE_len (at0 sz : Nat) (wh : List UInt8) : (getE at0 sz wh).2.length = wh.length := by unfold getE; split <;> simp
theorem pputE_len (at0 sz : Nat) (wh : List UInt8) (at_ : Nat) : (pputE at0 sz wh at_).2.length = wh.length := by unfold pputE; split; rfl; split <;> simp
theorem ptE_len (fr to : UInt8) (x : Bool) (e : Nat) (at0 sz : Nat) (wh : List UInt8) (lt : List Bool) (at_ : Nat) : (ptE fr to x e at0 sz wh lt at_).2.1.length = wh.length := by unfold ptE; split; rfl; split; split; simp; rfl; rfl
theorem in_pool {at0 sz n at_ k : Nat} {wh : List UInt8} (h : PoolOk at0 sz wh n) (hk : k < wh.length) (he : at_ = at0 + k * sz) : at_ + sz ≤ n := by
  have h1 := Nat.mul_le_mul_right sz (Nat.succ_le_of_lt hk)
  rw [Nat.succ_mul] at h1
  have := h.hn; omega
theorem findIdx_some {wh : List UInt8} {k : Nat} (h : wh.findIdx? (· == 0) = some k) : wh[k]? = some 0 ∧ ∀ j, j < k → wh[j]? ≠ some 0 := by
  obtain ⟨hk, h1, h2⟩ := List.findIdx?_eq_some_iff_getElem.1 h
  refine ⟨by rw [List.getElem?_eq_getElem hk]; simpa using h1, fun j hj hc => ?_⟩
  have := h2 j hj
  rw [List.getElem?_eq_getElem (by omega)] at hc
  simp at hc; simp [hc] at this
theorem findIdx_none {wh : List UInt8} (h : wh.findIdx? (· == 0) = none) : 0 ∉ wh := fun hm => by
  have := List.findIdx?_eq_none_iff.1 h 0 hm
  simp at this
theorem readA (p at_ : Nat) (n : Int) (bs : List UInt8) (lt : List Bool) (ha : at_ < 4294967296) (hn : n < 9223372036854775808) :
    Sat Try.prog 21 [.pointer (some ⟨p, 0, none⟩), .int .u32 at_, .int .i64 n] [memA p bs lt] (fun u L' => u = .tuple #[str (readE bs at_ n).1, .int .i64 ((readE bs at_ n).2 : Nat)] ∧ L' = [memA p bs lt]) := by
  refine Sat.openA1 ?_
  rintro ⟨b, v, ss⟩ ⟨hbs, hcn, rfl⟩
  dsimp only
  obtain ⟨hlen, hb⟩ := canon_facts hcn hbs
  unfold readE
  split
  · rename_i h
    refine (read_neg p b at_ v bs ss n h).post ?_
    rintro u L' ⟨rfl, rfl⟩
    exact ⟨_, Imp.shutA1 ⟨b, v, ss⟩ ⟨hbs, hcn, rfl⟩ (Imp.refl _), rfl, rfl⟩
  · rename_i h
    obtain ⟨m, rfl⟩ := Int.eq_ofNat_of_zero_le (Int.not_lt.1 h)
    rw [Int.toNat_natCast]
    split
    · rename_i h2
      refine (read_ok p b at_ v bs ss m hbs hlen hb ha h2).post ?_
      rintro u L' ⟨rfl, rfl⟩
      exact ⟨_, Imp.shutA1 ⟨b, v, ss⟩ ⟨hbs, hcn, rfl⟩ (Imp.refl _), rfl, rfl⟩
    · rename_i h2
      refine (read_out p b at_ v bs ss m hbs hlen hb ha (by omega) (by omega)).post ?_
      rintro u L' ⟨rfl, rfl⟩
      exact ⟨_, Imp.shutA1 ⟨b, v, ss⟩ ⟨hbs, hcn, rfl⟩ (Imp.refl _), rfl, rfl⟩
theorem u16A (p at_ : Nat) (bs : List UInt8) (lt : List Bool) (ha : at_ < 4294967296) :
    Sat Try.prog 13 [.pointer (some ⟨p, 0, none⟩), .int .u32 at_] [memA p bs lt] (fun u L' => u = .tuple #[.int .u16 ((numE bs at_ 2).1 : Nat), .int .i64 ((numE bs at_ 2).2 : Nat)] ∧ L' = [memA p bs lt]) := by
  refine Sat.openA1 ?_
  rintro ⟨b, v, ss⟩ ⟨hbs, hcn, rfl⟩
  dsimp only
  obtain ⟨hlen, hb⟩ := canon_facts hcn hbs
  unfold numE
  split
  · rename_i h2
    refine (u16_ok p b at_ v bs ss hbs hlen hb ha h2).post ?_
    rintro u L' ⟨rfl, rfl⟩
    exact ⟨_, Imp.shutA1 ⟨b, v, ss⟩ ⟨hbs, hcn, rfl⟩ (Imp.refl _), rfl, rfl⟩
  · rename_i h2
    refine (u16_out p b at_ v bs ss hbs hlen hb ha (by omega)).post ?_
    rintro u L' ⟨rfl, rfl⟩
    exact ⟨_, Imp.shutA1 ⟨b, v, ss⟩ ⟨hbs, hcn, rfl⟩ (Imp.refl _), rfl, rfl⟩
theorem u32A (p at_ : Nat) (bs : List UInt8) (lt : List Bool) (ha : at_ < 4294967296) :
    Sat Try.prog 78 [.pointer (some ⟨p, 0, none⟩), .int .u32 at_] [memA p bs lt] (fun u L' => u = .tuple #[.int .u32 ((numE bs at_ 4).1 : Nat), .int .i64 ((numE bs at_ 4).2 : Nat)] ∧ L' = [memA p bs lt]) := by
  refine Sat.openA1 ?_
  rintro ⟨b, v, ss⟩ ⟨hbs, hcn, rfl⟩
  dsimp only
  obtain ⟨hlen, hb⟩ := canon_facts hcn hbs
  unfold numE
  split
  · rename_i h2
    refine (u32_ok p b at_ v bs ss hbs hlen hb ha h2).post ?_
    rintro u L' ⟨rfl, rfl⟩
    exact ⟨_, Imp.shutA1 ⟨b, v, ss⟩ ⟨hbs, hcn, rfl⟩ (Imp.refl _), rfl, rfl⟩
  · rename_i h2
    refine (u32_out p b at_ v bs ss hbs hlen hb ha (by omega)).post ?_
    rintro u L' ⟨rfl, rfl⟩
    exact ⟨_, Imp.shutA1 ⟨b, v, ss⟩ ⟨hbs, hcn, rfl⟩ (Imp.refl _), rfl, rfl⟩
theorem writeA (p at_ : Nat) (s : List UInt8) (bs : List UInt8) (lt : List Bool) (ha : at_ < 4294967296) (hs : s.length < 9223372036854775808) :
    Sat Try.prog 31 [.pointer (some ⟨p, 0, none⟩), .int .u32 at_, str s] [memA p bs lt] (fun u L' => u = .int .i64 ((writeE bs lt at_ s false 11).1 : Nat) ∧ L' = [memA p (writeE bs lt at_ s false 11).2 lt]) := by
  refine Sat.openA1 ?_
  rintro ⟨b, v, ss⟩ ⟨hbs, hcn, rfl⟩
  dsimp only
  obtain ⟨hlen, hb⟩ := canon_facts hcn hbs
  unfold writeE
  
  split
  · rename_i h2
    split
    · rename_i h3
      refine (write_ok p b at_ v bs ss s hbs hlen hb ha h2 ((all_false hcn h2).1 h3)).post ?_
      rintro u L' ⟨rfl, rfl⟩
      have hpl := putB_len (bs := bs) (a := at_) (s := s) (by skip; exact h2)
      refine ⟨_, Imp.shutA1 ⟨b, v, ss⟩ ⟨by rw [hpl]; exact hbs, by rw [hpl]; exact hcn, by rw [hpl]⟩ (by rw [hpl]; exact Imp.refl _), rfl, rfl⟩
    · rename_i h3
      refine (write_bad p b at_ v bs ss s hbs hlen hb ha h2 (Nat.pos_of_ne_zero fun h4 => h3 ((all_false hcn h2).2 h4))).post ?_
      rintro u L' ⟨rfl, rfl⟩
      exact ⟨_, Imp.shutA1 ⟨b, v, ss⟩ ⟨hbs, hcn, rfl⟩ (Imp.refl _), rfl, rfl⟩
  · rename_i h2
    refine (write_out p b at_ v bs ss s hbs hlen hb ha hs (by omega)).post ?_
    rintro u L' ⟨rfl, rfl⟩
    exact ⟨_, Imp.shutA1 ⟨b, v, ss⟩ ⟨hbs, hcn, rfl⟩ (Imp.refl _), rfl, rfl⟩
theorem deviceA (p at_ : Nat) (s : List UInt8) (bs : List UInt8) (lt : List Bool) (ha : at_ < 4294967296) (hs : s.length < 9223372036854775808) :
    Sat Try.prog 35 [.pointer (some ⟨p, 0, none⟩), .int .u32 at_, str s] [memA p bs lt] (fun u L' => u = .int .i64 ((writeE bs lt at_ s true 12).1 : Nat) ∧ L' = [memA p (writeE bs lt at_ s true 12).2 lt]) := by
  refine Sat.openA1 ?_
  rintro ⟨b, v, ss⟩ ⟨hbs, hcn, rfl⟩
  dsimp only
  obtain ⟨hlen, hb⟩ := canon_facts hcn hbs
  unfold writeE
  
  split
  · rename_i h2
    split
    · rename_i h3
      refine (device_ok p b at_ v bs ss s hbs hlen hb ha h2 ((all_true hcn h2).1 h3)).post ?_
      rintro u L' ⟨rfl, rfl⟩
      have hpl := putB_len (bs := bs) (a := at_) (s := s) (by skip; exact h2)
      refine ⟨_, Imp.shutA1 ⟨b, v, ss⟩ ⟨by rw [hpl]; exact hbs, by rw [hpl]; exact hcn, by rw [hpl]⟩ (by rw [hpl]; exact Imp.refl _), rfl, rfl⟩
    · rename_i h3
      refine (device_bad p b at_ v bs ss s hbs hlen hb ha h2 (Nat.lt_of_not_le fun h4 => h3 ((all_true hcn h2).2 h4))).post ?_
      rintro u L' ⟨rfl, rfl⟩
      exact ⟨_, Imp.shutA1 ⟨b, v, ss⟩ ⟨hbs, hcn, rfl⟩ (Imp.refl _), rfl, rfl⟩
  · rename_i h2
    refine (device_out p b at_ v bs ss s hbs hlen hb ha hs (by omega)).post ?_
    rintro u L' ⟨rfl, rfl⟩
    exact ⟨_, Imp.shutA1 ⟨b, v, ss⟩ ⟨hbs, hcn, rfl⟩ (Imp.refl _), rfl, rfl⟩
theorem put16A (p at_ : Nat) (x : Nat) (bs : List UInt8) (lt : List Bool) (ha : at_ < 4294967296) (hx : x < 65536) :
    Sat Try.prog 53 [.pointer (some ⟨p, 0, none⟩), .int .u32 at_, .int .u16 x] [memA p bs lt] (fun u L' => u = .int .i64 ((writeE bs lt at_ (leB x 2) false 11).1 : Nat) ∧ L' = [memA p (writeE bs lt at_ (leB x 2) false 11).2 lt]) := by
  refine Sat.openA1 ?_
  rintro ⟨b, v, ss⟩ ⟨hbs, hcn, rfl⟩
  dsimp only
  obtain ⟨hlen, hb⟩ := canon_facts hcn hbs
  unfold writeE
  rw [leB_len]
  split
  · rename_i h2
    split
    · rename_i h3
      refine (put16_ok p b at_ v bs ss x hx hbs hlen hb ha h2 ((all_false hcn h2).1 h3)).post ?_
      rintro u L' ⟨rfl, rfl⟩
      have hpl := putB_len (bs := bs) (a := at_) (s := (leB x 2)) (by rw [leB_len]; exact h2)
      refine ⟨_, Imp.shutA1 ⟨b, v, ss⟩ ⟨by rw [hpl]; exact hbs, by rw [hpl]; exact hcn, by rw [hpl]⟩ (by rw [hpl]; exact Imp.refl _), rfl, rfl⟩
    · rename_i h3
      refine (put16_bad p b at_ v bs ss x hx hbs hlen hb ha h2 (Nat.pos_of_ne_zero fun h4 => h3 ((all_false hcn h2).2 h4))).post ?_
      rintro u L' ⟨rfl, rfl⟩
      exact ⟨_, Imp.shutA1 ⟨b, v, ss⟩ ⟨hbs, hcn, rfl⟩ (Imp.refl _), rfl, rfl⟩
  · rename_i h2
    refine (put16_out p b at_ v bs ss x hx hbs hlen hb ha (by omega)).post ?_
    rintro u L' ⟨rfl, rfl⟩
    exact ⟨_, Imp.shutA1 ⟨b, v, ss⟩ ⟨hbs, hcn, rfl⟩ (Imp.refl _), rfl, rfl⟩
theorem put32A (p at_ : Nat) (x : Nat) (bs : List UInt8) (lt : List Bool) (ha : at_ < 4294967296) (hx : x < 4294967296) :
    Sat Try.prog 71 [.pointer (some ⟨p, 0, none⟩), .int .u32 at_, .int .u32 x] [memA p bs lt] (fun u L' => u = .int .i64 ((writeE bs lt at_ (leB x 4) false 11).1 : Nat) ∧ L' = [memA p (writeE bs lt at_ (leB x 4) false 11).2 lt]) := by
  refine Sat.openA1 ?_
  rintro ⟨b, v, ss⟩ ⟨hbs, hcn, rfl⟩
  dsimp only
  obtain ⟨hlen, hb⟩ := canon_facts hcn hbs
  unfold writeE
  rw [leB_len]
  split
  · rename_i h2
    split
    · rename_i h3
      refine (put32_ok p b at_ v bs ss x hx hbs hlen hb ha h2 ((all_false hcn h2).1 h3)).post ?_
      rintro u L' ⟨rfl, rfl⟩
      have hpl := putB_len (bs := bs) (a := at_) (s := (leB x 4)) (by rw [leB_len]; exact h2)
      refine ⟨_, Imp.shutA1 ⟨b, v, ss⟩ ⟨by rw [hpl]; exact hbs, by rw [hpl]; exact hcn, by rw [hpl]⟩ (by rw [hpl]; exact Imp.refl _), rfl, rfl⟩
    · rename_i h3
      refine (put32_bad p b at_ v bs ss x hx hbs hlen hb ha h2 (Nat.pos_of_ne_zero fun h4 => h3 ((all_false hcn h2).2 h4))).post ?_
      rintro u L' ⟨rfl, rfl⟩
      exact ⟨_, Imp.shutA1 ⟨b, v, ss⟩ ⟨hbs, hcn, rfl⟩ (Imp.refl _), rfl, rfl⟩
  · rename_i h2
    refine (put32_out p b at_ v bs ss x hx hbs hlen hb ha (by omega)).post ?_
    rintro u L' ⟨rfl, rfl⟩
    exact ⟨_, Imp.shutA1 ⟨b, v, ss⟩ ⟨hbs, hcn, rfl⟩ (Imp.refl _), rfl, rfl⟩
theorem put64A (p at_ : Nat) (x : Nat) (bs : List UInt8) (lt : List Bool) (ha : at_ < 4294967296) (hx : x < 18446744073709551616) :
    Sat Try.prog 30 [.pointer (some ⟨p, 0, none⟩), .int .u32 at_, .int .u64 x] [memA p bs lt] (fun u L' => u = .int .i64 ((writeE bs lt at_ (leB x 8) false 11).1 : Nat) ∧ L' = [memA p (writeE bs lt at_ (leB x 8) false 11).2 lt]) := by
  refine Sat.openA1 ?_
  rintro ⟨b, v, ss⟩ ⟨hbs, hcn, rfl⟩
  dsimp only
  obtain ⟨hlen, hb⟩ := canon_facts hcn hbs
  unfold writeE
  rw [leB_len]
  split
  · rename_i h2
    split
    · rename_i h3
      refine (put64_ok p b at_ v bs ss x hx hbs hlen hb ha h2 ((all_false hcn h2).1 h3)).post ?_
      rintro u L' ⟨rfl, rfl⟩
      have hpl := putB_len (bs := bs) (a := at_) (s := (leB x 8)) (by rw [leB_len]; exact h2)
      refine ⟨_, Imp.shutA1 ⟨b, v, ss⟩ ⟨by rw [hpl]; exact hbs, by rw [hpl]; exact hcn, by rw [hpl]⟩ (by rw [hpl]; exact Imp.refl _), rfl, rfl⟩
    · rename_i h3
      refine (put64_bad p b at_ v bs ss x hx hbs hlen hb ha h2 (Nat.pos_of_ne_zero fun h4 => h3 ((all_false hcn h2).2 h4))).post ?_
      rintro u L' ⟨rfl, rfl⟩
      exact ⟨_, Imp.shutA1 ⟨b, v, ss⟩ ⟨hbs, hcn, rfl⟩ (Imp.refl _), rfl, rfl⟩
  · rename_i h2
    refine (put64_out p b at_ v bs ss x hx hbs hlen hb ha (by omega)).post ?_
    rintro u L' ⟨rfl, rfl⟩
    exact ⟨_, Imp.shutA1 ⟨b, v, ss⟩ ⟨hbs, hcn, rfl⟩ (Imp.refl _), rfl, rfl⟩
theorem hsort_of {n : Nat} {ss : List Spn} (h : Canon 0 n ss) : ∀ (m h' : Nat) (x y : Spn), m ≤ h' → ss[m]? = some x → ss[h']? = some y → x.1 ≤ y.1 := fun m h' x y => h.sort m h' x y
theorem lendA (p at_ l : Nat) (bs : List UInt8) (lt : List Bool) (ha : at_ < 4294967296) (hl : l < 4294967296) :
    Sat Try.prog 44 [.pointer (some ⟨p, 0, none⟩), .agg #[.int .u32 at_, .int .u32 l]] [memA p bs lt] (fun u L' => u = .int .i64 ((turnE lt at_ l true 11).1 : Nat) ∧ L' = [memA p bs (turnE lt at_ l true 11).2]) := by
  refine Sat.openA1 ?_
  rintro ⟨b, v, ss⟩ ⟨hbs, hcn, rfl⟩
  dsimp only
  obtain ⟨hlen, hb⟩ := canon_facts hcn hbs
  unfold turnE
  rw [flags_len]
  split
  · rename_i h1
    have h2 := h1.2
    split
    · rename_i h3
      refine (lend_ok p b at_ l v bs ss hbs hlen hb ha hl h1.1 h2 ((all_false hcn h2).1 h3) (hsort_of hcn)).post ?_
      rintro u L' ⟨v2, pre, post, rfl, he, g1, g2, rfl⟩
      obtain ⟨c1, c2⟩ := lend_plain hcn he g1 g2 h1.1 h2 ((all_false hcn h2).1 h3)
      exact ⟨_, Imp.shutA1 ⟨b, v2, _⟩ ⟨hbs, c1, lend_flags h2 c2⟩ (Imp.refl _), rfl, rfl⟩
    · rename_i h3
      refine (lend_bad p b at_ l v bs ss hbs hlen hb ha hl h1.1 h2 (Nat.pos_of_ne_zero fun h4 => h3 ((all_false hcn h2).2 h4))).post ?_
      rintro u L' ⟨rfl, rfl⟩
      exact ⟨_, Imp.shutA1 ⟨b, v, ss⟩ ⟨hbs, hcn, rfl⟩ (Imp.refl _), rfl, rfl⟩
  · rename_i h1
    refine (lend_out p b at_ l v bs ss hbs hlen hb ha hl (by omega)).post ?_
    rintro u L' ⟨rfl, rfl⟩
    exact ⟨_, Imp.shutA1 ⟨b, v, ss⟩ ⟨hbs, hcn, rfl⟩ (Imp.refl _), rfl, rfl⟩
theorem backA (p at_ l : Nat) (bs : List UInt8) (lt : List Bool) (ha : at_ < 4294967296) (hl : l < 4294967296) :
    Sat Try.prog 81 [.pointer (some ⟨p, 0, none⟩), .agg #[.int .u32 at_, .int .u32 l]] [memA p bs lt] (fun u L' => u = .int .i64 ((turnE lt at_ l false 12).1 : Nat) ∧ L' = [memA p bs (turnE lt at_ l false 12).2]) := by
  refine Sat.openA1 ?_
  rintro ⟨b, v, ss⟩ ⟨hbs, hcn, rfl⟩
  dsimp only
  obtain ⟨hlen, hb⟩ := canon_facts hcn hbs
  unfold turnE
  rw [flags_len]
  split
  · rename_i h1
    have h2 := h1.2
    split
    · rename_i h3
      refine (back_ok p b at_ l v bs ss hbs hlen hb ha hl h1.1 h2 ((all_true hcn h2).1 h3)).post ?_
      rintro u L' ⟨v2, rfl, rfl⟩
      obtain ⟨c1, c2⟩ := back_plain h1.1 hcn (hcn.one h1.1 ((shared_all hcn at_ l).1 ((all_true hcn h2).1 h3)))
      exact ⟨_, Imp.shutA1 ⟨b, v2, _⟩ ⟨hbs, c1, back_flags h2 c2⟩ (Imp.refl _), rfl, rfl⟩
    · rename_i h3
      refine (back_bad p b at_ l v bs ss hbs hlen hb ha hl h1.1 h2 (Nat.lt_of_not_le fun h4 => h3 ((all_true hcn h2).2 h4))).post ?_
      rintro u L' ⟨rfl, rfl⟩
      exact ⟨_, Imp.shutA1 ⟨b, v, ss⟩ ⟨hbs, hcn, rfl⟩ (Imp.refl _), rfl, rfl⟩
  · rename_i h1
    refine (back_out p b at_ l v bs ss hbs hlen hb ha hl (by omega)).post ?_
    rintro u L' ⟨rfl, rfl⟩
    exact ⟨_, Imp.shutA1 ⟨b, v, ss⟩ ⟨hbs, hcn, rfl⟩ (Imp.refl _), rfl, rfl⟩
theorem sizeA (p : Nat) (bs : List UInt8) (lt : List Bool) :
    Sat Try.prog 67 [.pointer (some ⟨p, 0, none⟩)] [memA p bs lt] (fun u L' => u = .int .i64 (bs.length : Nat) ∧ L' = [memA p bs lt]) := by
  refine Sat.openA1 ?_
  rintro ⟨b, v, ss⟩ ⟨hbs, hcn, rfl⟩
  dsimp only
  obtain ⟨hlen, hb⟩ := canon_facts hcn hbs
  refine ((size_spec p bs.length bs.length (some ⟨b, 0, none⟩) v).frame (F := [row 5 b (bs.map byteV), sl 110 2 v ss.length (spans ss)])).post ?_
  rintro u L' ⟨_, ⟨rfl, rfl⟩, rfl⟩
  exact ⟨_, Imp.shutA1 ⟨b, v, ss⟩ ⟨hbs, hcn, rfl⟩ (Imp.refl _), rfl, rfl⟩
end Go.Proofs.Ytfgpnipnaaeafaa

