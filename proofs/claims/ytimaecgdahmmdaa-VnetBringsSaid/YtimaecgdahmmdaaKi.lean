/- Lemmas for the proofs of this seat: no statement of the seat is claimed here. -/
import Derived.Test.YtimaecgdahmmdaaProg
import Derived.Test.YtimaecgdahmmdaaKc
import Derived.Test.YtimaecgdahmmdaaKh
import Derived.Test.YtimaecgdahmmdaaKd
set_option linter.all false

namespace Go.Proofs.Ytimaecgdahmmdaa
open Go Pw
set_option maxRecDepth 20000
set_option maxHeartbeats 4000000
set_option synthInstance.maxHeartbeats 400000
set_option synthInstance.maxSize 4000
instance : Und Try.prog 3 (Go.TypeDesc.int (Go.IntKind.i64)) := ⟨Try.underlying3⟩
instance : Sz Try.prog 3 0 := ⟨by kernel_rfl⟩
instance : Pl Try.prog 3 := ⟨by kernel_rfl⟩
instance : Zr Try.prog 3 (.int .i64 0) := ⟨by kernel_rfl⟩
instance : By Try.prog 3 8 := ⟨by kernel_rfl⟩
instance : Und Try.prog 4 (Go.TypeDesc.bool) := ⟨Try.underlying4⟩
instance : Sz Try.prog 4 0 := ⟨by kernel_rfl⟩
instance : Pl Try.prog 4 := ⟨by kernel_rfl⟩
instance : Zr Try.prog 4 (.bool false) := ⟨by kernel_rfl⟩
instance : By Try.prog 4 1 := ⟨by kernel_rfl⟩
instance : Und Try.prog 5 (Go.TypeDesc.int (Go.IntKind.u8)) := ⟨Try.underlying5⟩
instance : Sz Try.prog 5 0 := ⟨by kernel_rfl⟩
instance : Pl Try.prog 5 := ⟨by kernel_rfl⟩
instance : Zr Try.prog 5 (.int .u8 0) := ⟨by kernel_rfl⟩
instance : By Try.prog 5 1 := ⟨by kernel_rfl⟩
instance : Und Try.prog 9 (Go.TypeDesc.string) := ⟨Try.underlying9⟩
instance : Sz Try.prog 9 0 := ⟨by kernel_rfl⟩
instance : Pl Try.prog 9 := ⟨by kernel_rfl⟩
instance : Zr Try.prog 9 (.string ⟨#[]⟩) := ⟨by kernel_rfl⟩
instance : By Try.prog 9 16 := ⟨by kernel_rfl⟩
instance : Und Try.prog 22 (Go.TypeDesc.slice 9) := ⟨Try.underlying22⟩
instance : Sz Try.prog 22 0 := ⟨by kernel_rfl⟩
instance : Pl Try.prog 22 := ⟨by kernel_rfl⟩
instance : Zr Try.prog 22 (.slice none 0 0) := ⟨by kernel_rfl⟩
instance : By Try.prog 22 24 := ⟨by kernel_rfl⟩
instance : Und Try.prog 23 (Go.TypeDesc.slice 5) := ⟨Try.underlying23⟩
instance : Sz Try.prog 23 0 := ⟨by kernel_rfl⟩
instance : Pl Try.prog 23 := ⟨by kernel_rfl⟩
instance : Zr Try.prog 23 (.slice none 0 0) := ⟨by kernel_rfl⟩
instance : By Try.prog 23 24 := ⟨by kernel_rfl⟩
instance : Und Try.prog 26 (Go.TypeDesc.struct #[{ name := "Rx", type := 3, offset := 0, embedded := false, tag := "", pkgPath := "", byteOffset := 0 }, { name := "Tx", type := 3, offset := 1, embedded := false, tag := "", pkgPath := "", byteOffset := 8 }, { name := "Buf", type := 3, offset := 2, embedded := false, tag := "", pkgPath := "", byteOffset := 16 }]) := ⟨Try.underlying26⟩
instance : Sz Try.prog 26 2 := ⟨by kernel_rfl⟩
instance : Ag Try.prog 26 := ⟨by kernel_rfl⟩
instance : Zr Try.prog 26 (.agg #[.int .i64 0, .int .i64 0, .int .i64 0]) := ⟨by kernel_rfl⟩
instance : By Try.prog 26 24 := ⟨by kernel_rfl⟩
instance : Pc Try.prog 26 [(0, 1), (1, 1), (2, 1)] := ⟨by kernel_rfl⟩
instance : Und Try.prog 27 (Go.TypeDesc.pointer 74) := ⟨Try.underlying27⟩
instance : Sz Try.prog 27 0 := ⟨by kernel_rfl⟩
instance : Pl Try.prog 27 := ⟨by kernel_rfl⟩
instance : Zr Try.prog 27 (.pointer none) := ⟨by kernel_rfl⟩
instance : By Try.prog 27 8 := ⟨by kernel_rfl⟩
instance : Und Try.prog 28 (Go.TypeDesc.int (Go.IntKind.i64)) := ⟨Try.underlying28⟩
instance : Sz Try.prog 28 0 := ⟨by kernel_rfl⟩
instance : Pl Try.prog 28 := ⟨by kernel_rfl⟩
instance : Zr Try.prog 28 (.int .i64 0) := ⟨by kernel_rfl⟩
instance : By Try.prog 28 8 := ⟨by kernel_rfl⟩
instance : Und Try.prog 32 (Go.TypeDesc.pointer 81) := ⟨Try.underlying32⟩
instance : Sz Try.prog 32 0 := ⟨by kernel_rfl⟩
instance : Pl Try.prog 32 := ⟨by kernel_rfl⟩
instance : Zr Try.prog 32 (.pointer none) := ⟨by kernel_rfl⟩
instance : By Try.prog 32 8 := ⟨by kernel_rfl⟩
instance : Und Try.prog 35 (Go.TypeDesc.int (Go.IntKind.u32)) := ⟨Try.underlying35⟩
instance : Sz Try.prog 35 0 := ⟨by kernel_rfl⟩
instance : Pl Try.prog 35 := ⟨by kernel_rfl⟩
instance : Zr Try.prog 35 (.int .u32 0) := ⟨by kernel_rfl⟩
instance : By Try.prog 35 4 := ⟨by kernel_rfl⟩
instance : Und Try.prog 36 (Go.TypeDesc.pointer 104) := ⟨Try.underlying36⟩
instance : Sz Try.prog 36 0 := ⟨by kernel_rfl⟩
instance : Pl Try.prog 36 := ⟨by kernel_rfl⟩
instance : Zr Try.prog 36 (.pointer none) := ⟨by kernel_rfl⟩
instance : By Try.prog 36 8 := ⟨by kernel_rfl⟩
instance : Und Try.prog 38 (Go.TypeDesc.int (Go.IntKind.u16)) := ⟨Try.underlying38⟩
instance : Sz Try.prog 38 0 := ⟨by kernel_rfl⟩
instance : Pl Try.prog 38 := ⟨by kernel_rfl⟩
instance : Zr Try.prog 38 (.int .u16 0) := ⟨by kernel_rfl⟩
instance : By Try.prog 38 2 := ⟨by kernel_rfl⟩
instance : Und Try.prog 39 (Go.TypeDesc.slice 38) := ⟨Try.underlying39⟩
instance : Sz Try.prog 39 0 := ⟨by kernel_rfl⟩
instance : Pl Try.prog 39 := ⟨by kernel_rfl⟩
instance : Zr Try.prog 39 (.slice none 0 0) := ⟨by kernel_rfl⟩
instance : By Try.prog 39 24 := ⟨by kernel_rfl⟩
instance : Und Try.prog 50 (Go.TypeDesc.slice 54) := ⟨Try.underlying50⟩
instance : Sz Try.prog 50 0 := ⟨by kernel_rfl⟩
instance : Pl Try.prog 50 := ⟨by kernel_rfl⟩
instance : Zr Try.prog 50 (.slice none 0 0) := ⟨by kernel_rfl⟩
instance : By Try.prog 50 24 := ⟨by kernel_rfl⟩
instance : Und Try.prog 54 (Go.TypeDesc.struct #[{ name := "At", type := 35, offset := 0, embedded := false, tag := "", pkgPath := "", byteOffset := 0 }, { name := "Len", type := 35, offset := 1, embedded := false, tag := "", pkgPath := "", byteOffset := 4 }, { name := "In", type := 4, offset := 2, embedded := false, tag := "", pkgPath := "", byteOffset := 8 }]) := ⟨Try.underlying54⟩
instance : Sz Try.prog 54 2 := ⟨by kernel_rfl⟩
instance : Ag Try.prog 54 := ⟨by kernel_rfl⟩
instance : Zr Try.prog 54 (.agg #[.int .u32 0, .int .u32 0, .bool false]) := ⟨by kernel_rfl⟩
instance : By Try.prog 54 12 := ⟨by kernel_rfl⟩
instance : Pc Try.prog 54 [(0, 1), (1, 1), (2, 1)] := ⟨by kernel_rfl⟩
instance : Und Try.prog 62 (Go.TypeDesc.slice 65) := ⟨Try.underlying62⟩
instance : Sz Try.prog 62 0 := ⟨by kernel_rfl⟩
instance : Pl Try.prog 62 := ⟨by kernel_rfl⟩
instance : Zr Try.prog 62 (.slice none 0 0) := ⟨by kernel_rfl⟩
instance : By Try.prog 62 24 := ⟨by kernel_rfl⟩
instance : Und Try.prog 65 (Go.TypeDesc.struct #[{ name := "Do", type := 3, offset := 0, embedded := false, tag := "", pkgPath := "", byteOffset := 0 }, { name := "S", type := 9, offset := 1, embedded := false, tag := "", pkgPath := "", byteOffset := 8 }, { name := "N", type := 5, offset := 2, embedded := false, tag := "", pkgPath := "", byteOffset := 24 }, { name := "X", type := 35, offset := 3, embedded := false, tag := "", pkgPath := "", byteOffset := 28 }, { name := "At", type := 35, offset := 4, embedded := false, tag := "", pkgPath := "", byteOffset := 32 }]) := ⟨Try.underlying65⟩
instance : Sz Try.prog 65 4 := ⟨by kernel_rfl⟩
instance : Ag Try.prog 65 := ⟨by kernel_rfl⟩
instance : Zr Try.prog 65 (.agg #[.int .i64 0, .string ⟨#[]⟩, .int .u8 0, .int .u32 0, .int .u32 0]) := ⟨by kernel_rfl⟩
instance : By Try.prog 65 40 := ⟨by kernel_rfl⟩
instance : Pc Try.prog 65 [(0, 1), (1, 1), (2, 1), (3, 1), (4, 1)] := ⟨by kernel_rfl⟩
instance : Und Try.prog 69 (Go.TypeDesc.int (Go.IntKind.u64)) := ⟨Try.underlying69⟩
instance : Sz Try.prog 69 0 := ⟨by kernel_rfl⟩
instance : Pl Try.prog 69 := ⟨by kernel_rfl⟩
instance : Zr Try.prog 69 (.int .u64 0) := ⟨by kernel_rfl⟩
instance : By Try.prog 69 8 := ⟨by kernel_rfl⟩
instance : Und Try.prog 72 (Go.TypeDesc.slice 113) := ⟨Try.underlying72⟩
instance : Sz Try.prog 72 0 := ⟨by kernel_rfl⟩
instance : Pl Try.prog 72 := ⟨by kernel_rfl⟩
instance : Zr Try.prog 72 (.slice none 0 0) := ⟨by kernel_rfl⟩
instance : By Try.prog 72 24 := ⟨by kernel_rfl⟩
instance : Und Try.prog 74 (Go.TypeDesc.struct #[{ name := "bytes", type := 23, offset := 0, embedded := false, tag := "", pkgPath := "pharos/mem", byteOffset := 0 }, { name := "lent", type := 72, offset := 1, embedded := false, tag := "", pkgPath := "pharos/mem", byteOffset := 24 }]) := ⟨Try.underlying74⟩
instance : Sz Try.prog 74 1 := ⟨by kernel_rfl⟩
instance : Ag Try.prog 74 := ⟨by kernel_rfl⟩
instance : Zr Try.prog 74 (.agg #[.slice none 0 0, .slice none 0 0]) := ⟨by kernel_rfl⟩
instance : By Try.prog 74 48 := ⟨by kernel_rfl⟩
instance : Pc Try.prog 74 [(0, 1), (1, 1)] := ⟨by kernel_rfl⟩
instance : Und Try.prog 76 (Go.TypeDesc.pointer 117) := ⟨Try.underlying76⟩
instance : Sz Try.prog 76 0 := ⟨by kernel_rfl⟩
instance : Pl Try.prog 76 := ⟨by kernel_rfl⟩
instance : Zr Try.prog 76 (.pointer none) := ⟨by kernel_rfl⟩
instance : By Try.prog 76 8 := ⟨by kernel_rfl⟩
instance : Und Try.prog 77 (Go.TypeDesc.map 38 35) := ⟨Try.underlying77⟩
instance : Sz Try.prog 77 0 := ⟨by kernel_rfl⟩
instance : Pl Try.prog 77 := ⟨by kernel_rfl⟩
instance : Zr Try.prog 77 (.map none) := ⟨by kernel_rfl⟩
instance : By Try.prog 77 8 := ⟨by kernel_rfl⟩
instance : Und Try.prog 79 (Go.TypeDesc.struct #[{ name := "Ring", type := 36, offset := 0, embedded := true, tag := "", pkgPath := "", byteOffset := 0 }, { name := "pool", type := 76, offset := 1, embedded := false, tag := "", pkgPath := "pharos/vnet", byteOffset := 8 }, { name := "bufs", type := 77, offset := 2, embedded := false, tag := "", pkgPath := "pharos/vnet", byteOffset := 16 }, { name := "lost", type := 3, offset := 3, embedded := false, tag := "", pkgPath := "pharos/vnet", byteOffset := 24 }]) := ⟨Try.underlying79⟩
instance : Sz Try.prog 79 3 := ⟨by kernel_rfl⟩
instance : Ag Try.prog 79 := ⟨by kernel_rfl⟩
instance : Zr Try.prog 79 (.agg #[.pointer none, .pointer none, .map none, .int .i64 0]) := ⟨by kernel_rfl⟩
instance : By Try.prog 79 32 := ⟨by kernel_rfl⟩
instance : Pc Try.prog 79 [(0, 1), (1, 1), (2, 1), (3, 1)] := ⟨by kernel_rfl⟩
instance : Und Try.prog 81 (Go.TypeDesc.struct #[{ name := "m", type := 27, offset := 0, embedded := false, tag := "", pkgPath := "pharos/vnet", byteOffset := 0 }, { name := "buf", type := 3, offset := 1, embedded := false, tag := "", pkgPath := "pharos/vnet", byteOffset := 8 }, { name := "rx", type := 79, offset := 2, embedded := false, tag := "", pkgPath := "pharos/vnet", byteOffset := 16 }, { name := "tx", type := 79, offset := 6, embedded := false, tag := "", pkgPath := "pharos/vnet", byteOffset := 48 }]) := ⟨Try.underlying81⟩
instance : Sz Try.prog 81 9 := ⟨by kernel_rfl⟩
instance : Ag Try.prog 81 := ⟨by kernel_rfl⟩
instance : Zr Try.prog 81 (.agg #[.pointer none, .int .i64 0, .pointer none, .pointer none, .map none, .int .i64 0, .pointer none, .pointer none, .map none, .int .i64 0]) := ⟨by kernel_rfl⟩
instance : By Try.prog 81 80 := ⟨by kernel_rfl⟩
instance : Pc Try.prog 81 [(0, 1), (1, 1), (2, 4), (6, 4)] := ⟨by kernel_rfl⟩
instance : Und Try.prog 82 (Go.TypeDesc.pointer 79) := ⟨Try.underlying82⟩
instance : Sz Try.prog 82 0 := ⟨by kernel_rfl⟩
instance : Pl Try.prog 82 := ⟨by kernel_rfl⟩
instance : Zr Try.prog 82 (.pointer none) := ⟨by kernel_rfl⟩
instance : By Try.prog 82 8 := ⟨by kernel_rfl⟩
instance : Und Try.prog 83 (Go.TypeDesc.array 2 82) := ⟨Try.underlying83⟩
instance : Sz Try.prog 83 1 := ⟨by kernel_rfl⟩
instance : Ag Try.prog 83 := ⟨by kernel_rfl⟩
instance : Zr Try.prog 83 (.agg #[.pointer none, .pointer none]) := ⟨by kernel_rfl⟩
instance : By Try.prog 83 16 := ⟨by kernel_rfl⟩
instance : Und Try.prog 84 (Go.TypeDesc.array 2 3) := ⟨Try.underlying84⟩
instance : Sz Try.prog 84 1 := ⟨by kernel_rfl⟩
instance : Ag Try.prog 84 := ⟨by kernel_rfl⟩
instance : Zr Try.prog 84 (.agg #[.int .i64 0, .int .i64 0]) := ⟨by kernel_rfl⟩
instance : By Try.prog 84 16 := ⟨by kernel_rfl⟩
instance : Und Try.prog 95 (Go.TypeDesc.pointer 28) := ⟨Try.underlying95⟩
instance : Sz Try.prog 95 0 := ⟨by kernel_rfl⟩
instance : Pl Try.prog 95 := ⟨by kernel_rfl⟩
instance : Zr Try.prog 95 (.pointer none) := ⟨by kernel_rfl⟩
instance : By Try.prog 95 8 := ⟨by kernel_rfl⟩
instance : Und Try.prog 101 (Go.TypeDesc.map 38 106) := ⟨Try.underlying101⟩
instance : Sz Try.prog 101 0 := ⟨by kernel_rfl⟩
instance : Pl Try.prog 101 := ⟨by kernel_rfl⟩
instance : Zr Try.prog 101 (.map none) := ⟨by kernel_rfl⟩
instance : By Try.prog 101 8 := ⟨by kernel_rfl⟩
instance : Und Try.prog 102 (Go.TypeDesc.slice 4) := ⟨Try.underlying102⟩
instance : Sz Try.prog 102 0 := ⟨by kernel_rfl⟩
instance : Pl Try.prog 102 := ⟨by kernel_rfl⟩
instance : Zr Try.prog 102 (.slice none 0 0) := ⟨by kernel_rfl⟩
instance : By Try.prog 102 24 := ⟨by kernel_rfl⟩
instance : Und Try.prog 104 (Go.TypeDesc.struct #[{ name := "m", type := 27, offset := 0, embedded := false, tag := "", pkgPath := "pharos/ring", byteOffset := 0 }, { name := "at", type := 35, offset := 1, embedded := false, tag := "", pkgPath := "pharos/ring", byteOffset := 8 }, { name := "size", type := 3, offset := 2, embedded := false, tag := "", pkgPath := "pharos/ring", byteOffset := 16 }, { name := "chains", type := 101, offset := 3, embedded := false, tag := "", pkgPath := "pharos/ring", byteOffset := 24 }, { name := "taken", type := 102, offset := 4, embedded := false, tag := "", pkgPath := "pharos/ring", byteOffset := 32 }, { name := "next", type := 38, offset := 5, embedded := false, tag := "", pkgPath := "pharos/ring", byteOffset := 56 }, { name := "last", type := 38, offset := 6, embedded := false, tag := "", pkgPath := "pharos/ring", byteOffset := 58 }, { name := "broken", type := 4, offset := 7, embedded := false, tag := "", pkgPath := "pharos/ring", byteOffset := 60 }]) := ⟨Try.underlying104⟩
instance : Sz Try.prog 104 7 := ⟨by kernel_rfl⟩
instance : Ag Try.prog 104 := ⟨by kernel_rfl⟩
instance : Zr Try.prog 104 (.agg #[.pointer none, .int .u32 0, .int .i64 0, .map none, .slice none 0 0, .int .u16 0, .int .u16 0, .bool false]) := ⟨by kernel_rfl⟩
instance : By Try.prog 104 64 := ⟨by kernel_rfl⟩
instance : Pc Try.prog 104 [(0, 1), (1, 1), (2, 1), (3, 1), (4, 1), (5, 1), (6, 1), (7, 1)] := ⟨by kernel_rfl⟩
instance : Und Try.prog 106 (Go.TypeDesc.struct #[{ name := "desc", type := 39, offset := 0, embedded := false, tag := "", pkgPath := "pharos/ring", byteOffset := 0 }, { name := "bufs", type := 50, offset := 1, embedded := false, tag := "", pkgPath := "pharos/ring", byteOffset := 24 }]) := ⟨Try.underlying106⟩
instance : Sz Try.prog 106 1 := ⟨by kernel_rfl⟩
instance : Ag Try.prog 106 := ⟨by kernel_rfl⟩
instance : Zr Try.prog 106 (.agg #[.slice none 0 0, .slice none 0 0]) := ⟨by kernel_rfl⟩
instance : By Try.prog 106 48 := ⟨by kernel_rfl⟩
instance : Pc Try.prog 106 [(0, 1), (1, 1)] := ⟨by kernel_rfl⟩
instance : Und Try.prog 113 (Go.TypeDesc.struct #[{ name := "At", type := 35, offset := 0, embedded := false, tag := "", pkgPath := "", byteOffset := 0 }, { name := "Len", type := 35, offset := 1, embedded := false, tag := "", pkgPath := "", byteOffset := 4 }]) := ⟨Try.underlying113⟩
instance : Sz Try.prog 113 1 := ⟨by kernel_rfl⟩
instance : Ag Try.prog 113 := ⟨by kernel_rfl⟩
instance : Zr Try.prog 113 (.agg #[.int .u32 0, .int .u32 0]) := ⟨by kernel_rfl⟩
instance : By Try.prog 113 8 := ⟨by kernel_rfl⟩
instance : Pc Try.prog 113 [(0, 1), (1, 1)] := ⟨by kernel_rfl⟩
instance : Und Try.prog 114 (Go.TypeDesc.int (Go.IntKind.u64)) := ⟨Try.underlying114⟩
instance : Sz Try.prog 114 0 := ⟨by kernel_rfl⟩
instance : Pl Try.prog 114 := ⟨by kernel_rfl⟩
instance : Zr Try.prog 114 (.int .u64 0) := ⟨by kernel_rfl⟩
instance : By Try.prog 114 8 := ⟨by kernel_rfl⟩
instance : Und Try.prog 117 (Go.TypeDesc.struct #[{ name := "Mem", type := 27, offset := 0, embedded := true, tag := "", pkgPath := "", byteOffset := 0 }, { name := "at", type := 35, offset := 1, embedded := false, tag := "", pkgPath := "pharos/mem", byteOffset := 8 }, { name := "size", type := 3, offset := 2, embedded := false, tag := "", pkgPath := "pharos/mem", byteOffset := 16 }, { name := "whose", type := 23, offset := 3, embedded := false, tag := "", pkgPath := "pharos/mem", byteOffset := 24 }]) := ⟨Try.underlying117⟩
instance : Sz Try.prog 117 3 := ⟨by kernel_rfl⟩
instance : Ag Try.prog 117 := ⟨by kernel_rfl⟩
instance : Zr Try.prog 117 (.agg #[.pointer none, .int .u32 0, .int .i64 0, .slice none 0 0]) := ⟨by kernel_rfl⟩
instance : By Try.prog 117 48 := ⟨by kernel_rfl⟩
instance : Pc Try.prog 117 [(0, 1), (1, 1), (2, 1), (3, 1)] := ⟨by kernel_rfl⟩
instance : Und Try.prog 122 (Go.TypeDesc.struct #[{ name := "Head", type := 38, offset := 0, embedded := false, tag := "", pkgPath := "", byteOffset := 0 }, { name := "Len", type := 35, offset := 1, embedded := false, tag := "", pkgPath := "", byteOffset := 4 }]) := ⟨Try.underlying122⟩
instance : Sz Try.prog 122 1 := ⟨by kernel_rfl⟩
instance : Ag Try.prog 122 := ⟨by kernel_rfl⟩
instance : Zr Try.prog 122 (.agg #[.int .u16 0, .int .u32 0]) := ⟨by kernel_rfl⟩
instance : By Try.prog 122 8 := ⟨by kernel_rfl⟩
instance : Pc Try.prog 122 [(0, 1), (1, 1)] := ⟨by kernel_rfl⟩
instance : Und Try.prog 129 (Go.TypeDesc.pointer 131) := ⟨Try.underlying129⟩
instance : Sz Try.prog 129 0 := ⟨by kernel_rfl⟩
instance : Pl Try.prog 129 := ⟨by kernel_rfl⟩
instance : Zr Try.prog 129 (.pointer none) := ⟨by kernel_rfl⟩
instance : By Try.prog 129 8 := ⟨by kernel_rfl⟩
instance : Und Try.prog 131 (Go.TypeDesc.struct #[{ name := "addr", type := 129, offset := 0, embedded := false, tag := "", pkgPath := "strings", byteOffset := 0 }, { name := "buf", type := 23, offset := 1, embedded := false, tag := "", pkgPath := "strings", byteOffset := 8 }]) := ⟨Try.underlying131⟩
instance : Sz Try.prog 131 1 := ⟨by kernel_rfl⟩
instance : Ag Try.prog 131 := ⟨by kernel_rfl⟩
instance : Zr Try.prog 131 (.agg #[.pointer none, .slice none 0 0]) := ⟨by kernel_rfl⟩
instance : By Try.prog 131 32 := ⟨by kernel_rfl⟩
instance : Pc Try.prog 131 [(0, 1), (1, 1)] := ⟨by kernel_rfl⟩
instance : Und Try.prog 156 (Go.TypeDesc.pointer 5) := ⟨Try.underlying156⟩
instance : Sz Try.prog 156 0 := ⟨by kernel_rfl⟩
instance : Pl Try.prog 156 := ⟨by kernel_rfl⟩
instance : Zr Try.prog 156 (.pointer none) := ⟨by kernel_rfl⟩
instance : By Try.prog 156 8 := ⟨by kernel_rfl⟩
instance : Und Try.prog 163 (Go.TypeDesc.unsafePointer) := ⟨Try.underlying163⟩
instance : Sz Try.prog 163 0 := ⟨by kernel_rfl⟩
instance : Pl Try.prog 163 := ⟨by kernel_rfl⟩
instance : Zr Try.prog 163 (.pointer none) := ⟨by kernel_rfl⟩
instance : By Try.prog 163 8 := ⟨by kernel_rfl⟩
instance : Cal Try.prog 6 := ⟨Try.call6⟩
instance : Cal Try.prog 7 := ⟨Try.call7⟩
instance : Cal Try.prog 8 := ⟨Try.call8⟩
instance : Cal Try.prog 9 := ⟨Try.call9⟩
instance : Cal Try.prog 10 := ⟨Try.call10⟩
instance : Cal Try.prog 11 := ⟨Try.call11⟩
instance : Cal Try.prog 12 := ⟨Try.call12⟩
instance : Cal Try.prog 13 := ⟨Try.call13⟩
instance : Cal Try.prog 14 := ⟨Try.call14⟩
instance : Cal Try.prog 15 := ⟨Try.call15⟩
instance : Cal Try.prog 16 := ⟨Try.call16⟩
instance : Cal Try.prog 17 := ⟨Try.call17⟩
instance : Cal Try.prog 18 := ⟨Try.call18⟩
instance : Cal Try.prog 19 := ⟨Try.call19⟩
instance : Cal Try.prog 20 := ⟨Try.call20⟩
instance : Cal Try.prog 21 := ⟨Try.call21⟩
instance : Cal Try.prog 22 := ⟨Try.call22⟩
instance : Cal Try.prog 23 := ⟨Try.call23⟩
instance : Cal Try.prog 24 := ⟨Try.call24⟩
instance : Cal Try.prog 25 := ⟨Try.call25⟩
instance : Cal Try.prog 26 := ⟨Try.call26⟩
instance : Cal Try.prog 27 := ⟨Try.call27⟩
instance : Cal Try.prog 28 := ⟨Try.call28⟩
instance : Cal Try.prog 29 := ⟨Try.call29⟩
instance : Cal Try.prog 30 := ⟨Try.call30⟩
instance : Cal Try.prog 31 := ⟨Try.call31⟩
instance : Cal Try.prog 32 := ⟨Try.call32⟩
instance : Cal Try.prog 33 := ⟨Try.call33⟩
instance : Cal Try.prog 34 := ⟨Try.call34⟩
instance : Cal Try.prog 35 := ⟨Try.call35⟩
instance : Cal Try.prog 36 := ⟨Try.call36⟩
instance : Cal Try.prog 37 := ⟨Try.call37⟩
instance : Cal Try.prog 38 := ⟨Try.call38⟩
instance : Cal Try.prog 39 := ⟨Try.call39⟩
instance : Cal Try.prog 40 := ⟨Try.call40⟩
instance : Cal Try.prog 41 := ⟨Try.call41⟩
instance : Cal Try.prog 42 := ⟨Try.call42⟩
instance : Cal Try.prog 43 := ⟨Try.call43⟩
instance : Cal Try.prog 44 := ⟨Try.call44⟩
instance : Cal Try.prog 45 := ⟨Try.call45⟩
instance : Cal Try.prog 46 := ⟨Try.call46⟩
instance : Cal Try.prog 47 := ⟨Try.call47⟩
instance : Cal Try.prog 48 := ⟨Try.call48⟩
instance : Cal Try.prog 49 := ⟨Try.call49⟩
instance : Cal Try.prog 50 := ⟨Try.call50⟩
instance : Cal Try.prog 51 := ⟨Try.call51⟩
instance : Cal Try.prog 52 := ⟨Try.call52⟩
instance : Cal Try.prog 53 := ⟨Try.call53⟩
instance : Cal Try.prog 54 := ⟨Try.call54⟩
instance : Cal Try.prog 55 := ⟨Try.call55⟩
instance : Cal Try.prog 56 := ⟨Try.call56⟩
instance : Cal Try.prog 57 := ⟨Try.call57⟩
instance : Cal Try.prog 58 := ⟨Try.call58⟩
instance : Cal Try.prog 59 := ⟨Try.call59⟩
instance : Cal Try.prog 60 := ⟨Try.call60⟩
instance : Cal Try.prog 61 := ⟨Try.call61⟩
instance : Cal Try.prog 62 := ⟨Try.call62⟩
instance : Cal Try.prog 63 := ⟨Try.call63⟩
instance : Cal Try.prog 64 := ⟨Try.call64⟩
instance : Cal Try.prog 65 := ⟨Try.call65⟩
instance : Cal Try.prog 66 := ⟨Try.call66⟩
instance : Cal Try.prog 67 := ⟨Try.call67⟩
instance : Cal Try.prog 68 := ⟨Try.call68⟩
instance : Cal Try.prog 69 := ⟨Try.call69⟩
instance : Cal Try.prog 70 := ⟨Try.call70⟩
instance : Cal Try.prog 71 := ⟨Try.call71⟩
instance : Cal Try.prog 72 := ⟨Try.call72⟩
instance : Cal Try.prog 73 := ⟨Try.call73⟩
instance : Cal Try.prog 74 := ⟨Try.call74⟩
instance : Cal Try.prog 75 := ⟨Try.call75⟩
instance : Cal Try.prog 76 := ⟨Try.call76⟩
instance : Cal Try.prog 77 := ⟨Try.call77⟩
instance : Cal Try.prog 78 := ⟨Try.call78⟩
instance : Cal Try.prog 80 := ⟨Try.call80⟩
instance : Cal Try.prog 81 := ⟨Try.call81⟩
instance : Cal Try.prog 82 := ⟨Try.call82⟩
instance : Cal Try.prog 83 := ⟨Try.call83⟩
instance : Cal Try.prog 84 := ⟨Try.call84⟩
instance : Cal Try.prog 85 := ⟨Try.call85⟩
instance : Cal Try.prog 86 := ⟨Try.call86⟩
instance : Cal Try.prog 87 := ⟨Try.call87⟩
instance : Cal Try.prog 88 := ⟨Try.call88⟩
instance : Cal Try.prog 91 := ⟨Try.call91⟩
instance : Cal Try.prog 92 := ⟨Try.call92⟩
instance : Cal Try.prog 93 := ⟨Try.call93⟩
instance : Cal Try.prog 94 := ⟨Try.call94⟩
instance : Mixed Try.prog := ⟨by kernel_rfl⟩

end Go.Proofs.Ytimaecgdahmmdaa


namespace Go.Proofs.Ytimaecgdahmmdaa
open Go Pw
set_option maxHeartbeats 1000000
/-! The memory, the pool, of the program and of the reference: each as one thing; what each call makes of it. -/
def memA (p : Nat) (bs : List UInt8) (lt : List Bool) : Assn :=
  exA (fun x : Nat × Value × List Spn => bs.length ≤ 1048576 ∧ Canon 0 bs.length x.2.2 ∧ lt = flags bs.length x.2.2)
    fun x => [row 74 p [.slice (some ⟨x.1, 0, none⟩) bs.length bs.length, x.2.1], row 5 x.1 (bs.map byteV), sl 113 2 x.2.1 x.2.2.length (spans x.2.2)]
structure PoolOk (at0 sz : Nat) (wh : List UInt8) (n : Nat) : Prop where
  h0 : at0 < 4294967296
  hz : 0 < sz
  hz2 : sz ≤ 1048576
  hc : wh.length ≤ 256
  hn : at0 + wh.length * sz ≤ n
  hn2 : n ≤ 1048576
theorem PoolOk.set {at0 sz n : Nat} {wh : List UInt8} (h : PoolOk at0 sz wh n) (k : Nat) (x : UInt8) : PoolOk at0 sz (wh.set k x) n :=
  ⟨h.h0, h.hz, h.hz2, by simpa using h.hc, by simpa using h.hn, h.hn2⟩
theorem canon_facts {n : Nat} {ss : List Spn} (h : Canon 0 n ss) (hn : n ≤ 1048576) : ss.length ≤ 1048576 ∧ ∀ s ∈ ss, s.1 + s.2 ≤ 1048576 := by
  constructor
  · cases ss with
    | nil => simp
    | cons x t =>
      obtain ⟨h1, h2, h3, h4⟩ := h
      have := h4.len (by omega)
      simp only [List.length_cons]; omega
  · intro s hs
    have := h.ge s hs; omega
/-- The buffer of a place. -/
def findK (at0 sz cnt at_ : Nat) : Option Nat := (List.range cnt).find? fun k => at_ == at0 + k * sz
theorem findK_some {at0 sz cnt at_ k : Nat} (h : findK at0 sz cnt at_ = some k) : k < cnt ∧ at_ = at0 + k * sz := by
  have h1 := List.mem_of_find?_eq_some h
  have h2 := List.find?_some h
  exact ⟨by simpa using h1, by simpa using h2⟩
theorem findK_none {at0 sz cnt at_ : Nat} (h : findK at0 sz cnt at_ = none) : ∀ k, k < cnt → at_ ≠ at0 + k * sz := fun k hk he => by
  have := List.find?_eq_none.1 h k (by simpa using hk)
  simp [he] at this
theorem findK_at {at0 sz cnt k : Nat} (hz : 0 < sz) (hk : k < cnt) : findK at0 sz cnt (at0 + k * sz) = some k := by
  cases h : findK at0 sz cnt (at0 + k * sz) with
  | none => exact absurd rfl (findK_none h k hk)
  | some j =>
    have := (findK_some h).2
    have h2 : k * sz = j * sz := by omega
    rw [Nat.eq_of_mul_eq_mul_right hz h2]
def wAt (wh : List UInt8) (k : Nat) : UInt8 := wh[k]?.getD 0
theorem wAt_eq {wh : List UInt8} {k : Nat} (hk : k < wh.length) : wh[k]? = some (wAt wh k) := by simp [wAt, hk]
def getE (at0 sz : Nat) (wh : List UInt8) : (Nat × Nat) × List UInt8 := match wh.findIdx? (· == 0) with
  | some k => ((at0 + k * sz, 0), wh.set k 1)
  | none => ((0, 6), wh)
def pputE (at0 sz : Nat) (wh : List UInt8) (at_ : Nat) : Nat × List UInt8 := match findK at0 sz wh.length at_ with
  | none => (2, wh)
  | some k => if wAt wh k = 1 then (0, wh.set k 0) else (3, wh)
def ptE (fr to : UInt8) (x : Bool) (e : Nat) (at0 sz : Nat) (wh : List UInt8) (lt : List Bool) (at_ : Nat) : Nat × List UInt8 × List Bool := match findK at0 sz wh.length at_ with
  | none => (2, wh, lt)
  | some k => if wAt wh k = fr then (if allB lt at_ sz (!x) = true then (0, wh.set k to, fillB lt at_ sz x) else (e, wh, lt)) else (3, wh, lt)
def whoseE (at0 sz : Nat) (wh : List UInt8) (at_ : Nat) : UInt8 × Nat := match findK at0 sz wh.length at_ with
  | none => (0, 2)
  | some k => (wAt wh k, 0)
theorem getE_len (at0 sz : Nat) (wh : List UInt8) : (getE at0 sz wh).2.length = wh.length := by unfold getE; split <;> simp
theorem pputE_len (at0 sz : Nat) (wh : List UInt8) (at_ : Nat) : (pputE at0 sz wh at_).2.length = wh.length := by unfold pputE; split; rfl; split <;> simp
theorem ptE_len (fr to : UInt8) (x : Bool) (e : Nat) (at0 sz : Nat) (wh : List UInt8) (lt : List Bool) (at_ : Nat) : (ptE fr to x e at0 sz wh lt at_).2.1.length = wh.length := by unfold ptE; split; rfl; split; split; simp; rfl; rfl
theorem in_pool {at0 sz n at_ k : Nat} {wh : List UInt8} (h : PoolOk at0 sz wh n) (hk : k < wh.length) (he : at_ = at0 + k * sz) : at_ + sz ≤ n := by
  have h1 := Nat.mul_le_mul_right sz (Nat.succ_le_of_lt hk)
  rw [Nat.succ_mul] at h1
  have := h.hn; omega
theorem findIdx_some {wh : List UInt8} {k : Nat} (h : wh.findIdx? (· == 0) = some k) : wh[k]? = some 0 ∧ ∀ j, j < k → wh[j]? ≠ some 0 := by
  obtain ⟨hk, h1, h2⟩ := List.findIdx?_eq_some_iff_getElem.1 h
  refine ⟨by rw [List.getElem?_eq_getElem hk]; simpa using h1, fun j hj hc => ?_⟩
  have := h2 j hj
  rw [List.getElem?_eq_getElem (by omega)] at hc
  simp at hc; simp [hc] at this
theorem findIdx_none {wh : List UInt8} (h : wh.findIdx? (· == 0) = none) : 0 ∉ wh := fun hm => by
  have := List.findIdx?_eq_none_iff.1 h 0 hm
  simp at this
theorem readA (p at_ : Nat) (n : Int) (bs : List UInt8) (lt : List Bool) (ha : at_ < 4294967296) (hn : n < 9223372036854775808) :
    Sat Try.prog 20 [.pointer (some ⟨p, 0, none⟩), .int .u32 at_, .int .i64 n] [memA p bs lt] (fun u L' => u = .tuple #[str (readE bs at_ n).1, .int .i64 ((readE bs at_ n).2 : Nat)] ∧ L' = [memA p bs lt]) := by
  refine Sat.openA1 ?_
  rintro ⟨b, v, ss⟩ ⟨hbs, hcn, rfl⟩
  dsimp only
  obtain ⟨hlen, hb⟩ := canon_facts hcn hbs
  unfold readE
  split
  · rename_i h
    refine (read_neg p b at_ v bs ss n h).post ?_
    rintro u L' ⟨rfl, rfl⟩
    exact ⟨_, Imp.shutA1 ⟨b, v, ss⟩ ⟨hbs, hcn, rfl⟩ (Imp.refl _), rfl, rfl⟩
  · rename_i h
    obtain ⟨m, rfl⟩ := Int.eq_ofNat_of_zero_le (Int.not_lt.1 h)
    rw [Int.toNat_natCast]
    split
    · rename_i h2
      refine (read_ok p b at_ v bs ss m hbs hlen hb ha h2).post ?_
      rintro u L' ⟨rfl, rfl⟩
      exact ⟨_, Imp.shutA1 ⟨b, v, ss⟩ ⟨hbs, hcn, rfl⟩ (Imp.refl _), rfl, rfl⟩
    · rename_i h2
      refine (read_out p b at_ v bs ss m hbs hlen hb ha (by omega) (by omega)).post ?_
      rintro u L' ⟨rfl, rfl⟩
      exact ⟨_, Imp.shutA1 ⟨b, v, ss⟩ ⟨hbs, hcn, rfl⟩ (Imp.refl _), rfl, rfl⟩
theorem u16A (p at_ : Nat) (bs : List UInt8) (lt : List Bool) (ha : at_ < 4294967296) :
    Sat Try.prog 17 [.pointer (some ⟨p, 0, none⟩), .int .u32 at_] [memA p bs lt] (fun u L' => u = .tuple #[.int .u16 ((numE bs at_ 2).1 : Nat), .int .i64 ((numE bs at_ 2).2 : Nat)] ∧ L' = [memA p bs lt]) := by
  refine Sat.openA1 ?_
  rintro ⟨b, v, ss⟩ ⟨hbs, hcn, rfl⟩
  dsimp only
  obtain ⟨hlen, hb⟩ := canon_facts hcn hbs
  unfold numE
  split
  · rename_i h2
    refine (u16_ok p b at_ v bs ss hbs hlen hb ha h2).post ?_
    rintro u L' ⟨rfl, rfl⟩
    exact ⟨_, Imp.shutA1 ⟨b, v, ss⟩ ⟨hbs, hcn, rfl⟩ (Imp.refl _), rfl, rfl⟩
  · rename_i h2
    refine (u16_out p b at_ v bs ss hbs hlen hb ha (by omega)).post ?_
    rintro u L' ⟨rfl, rfl⟩
    exact ⟨_, Imp.shutA1 ⟨b, v, ss⟩ ⟨hbs, hcn, rfl⟩ (Imp.refl _), rfl, rfl⟩
theorem u32A (p at_ : Nat) (bs : List UInt8) (lt : List Bool) (ha : at_ < 4294967296) :
    Sat Try.prog 71 [.pointer (some ⟨p, 0, none⟩), .int .u32 at_] [memA p bs lt] (fun u L' => u = .tuple #[.int .u32 ((numE bs at_ 4).1 : Nat), .int .i64 ((numE bs at_ 4).2 : Nat)] ∧ L' = [memA p bs lt]) := by
  refine Sat.openA1 ?_
  rintro ⟨b, v, ss⟩ ⟨hbs, hcn, rfl⟩
  dsimp only
  obtain ⟨hlen, hb⟩ := canon_facts hcn hbs
  unfold numE
  split
  · rename_i h2
    refine (u32_ok p b at_ v bs ss hbs hlen hb ha h2).post ?_
    rintro u L' ⟨rfl, rfl⟩
    exact ⟨_, Imp.shutA1 ⟨b, v, ss⟩ ⟨hbs, hcn, rfl⟩ (Imp.refl _), rfl, rfl⟩
  · rename_i h2
    refine (u32_out p b at_ v bs ss hbs hlen hb ha (by omega)).post ?_
    rintro u L' ⟨rfl, rfl⟩
    exact ⟨_, Imp.shutA1 ⟨b, v, ss⟩ ⟨hbs, hcn, rfl⟩ (Imp.refl _), rfl, rfl⟩
theorem writeA (p at_ : Nat) (s : List UInt8) (bs : List UInt8) (lt : List Bool) (ha : at_ < 4294967296) (hs : s.length < 9223372036854775808) :
    Sat Try.prog 39 [.pointer (some ⟨p, 0, none⟩), .int .u32 at_, str s] [memA p bs lt] (fun u L' => u = .int .i64 ((writeE bs lt at_ s false 11).1 : Nat) ∧ L' = [memA p (writeE bs lt at_ s false 11).2 lt]) := by
  refine Sat.openA1 ?_
  rintro ⟨b, v, ss⟩ ⟨hbs, hcn, rfl⟩
  dsimp only
  obtain ⟨hlen, hb⟩ := canon_facts hcn hbs
  unfold writeE
  
  split
  · rename_i h2
    split
    · rename_i h3
      refine (write_ok p b at_ v bs ss s hbs hlen hb ha h2 ((all_false hcn h2).1 h3)).post ?_
      rintro u L' ⟨rfl, rfl⟩
      have hpl := putB_len (bs := bs) (a := at_) (s := s) (by skip; exact h2)
      refine ⟨_, Imp.shutA1 ⟨b, v, ss⟩ ⟨by rw [hpl]; exact hbs, by rw [hpl]; exact hcn, by rw [hpl]⟩ (by rw [hpl]; exact Imp.refl _), rfl, rfl⟩
    · rename_i h3
      refine (write_bad p b at_ v bs ss s hbs hlen hb ha h2 (Nat.pos_of_ne_zero fun h4 => h3 ((all_false hcn h2).2 h4))).post ?_
      rintro u L' ⟨rfl, rfl⟩
      exact ⟨_, Imp.shutA1 ⟨b, v, ss⟩ ⟨hbs, hcn, rfl⟩ (Imp.refl _), rfl, rfl⟩
  · rename_i h2
    refine (write_out p b at_ v bs ss s hbs hlen hb ha hs (by omega)).post ?_
    rintro u L' ⟨rfl, rfl⟩
    exact ⟨_, Imp.shutA1 ⟨b, v, ss⟩ ⟨hbs, hcn, rfl⟩ (Imp.refl _), rfl, rfl⟩
theorem deviceA (p at_ : Nat) (s : List UInt8) (bs : List UInt8) (lt : List Bool) (ha : at_ < 4294967296) (hs : s.length < 9223372036854775808) :
    Sat Try.prog 25 [.pointer (some ⟨p, 0, none⟩), .int .u32 at_, str s] [memA p bs lt] (fun u L' => u = .int .i64 ((writeE bs lt at_ s true 12).1 : Nat) ∧ L' = [memA p (writeE bs lt at_ s true 12).2 lt]) := by
  refine Sat.openA1 ?_
  rintro ⟨b, v, ss⟩ ⟨hbs, hcn, rfl⟩
  dsimp only
  obtain ⟨hlen, hb⟩ := canon_facts hcn hbs
  unfold writeE
  
  split
  · rename_i h2
    split
    · rename_i h3
      refine (device_ok p b at_ v bs ss s hbs hlen hb ha h2 ((all_true hcn h2).1 h3)).post ?_
      rintro u L' ⟨rfl, rfl⟩
      have hpl := putB_len (bs := bs) (a := at_) (s := s) (by skip; exact h2)
      refine ⟨_, Imp.shutA1 ⟨b, v, ss⟩ ⟨by rw [hpl]; exact hbs, by rw [hpl]; exact hcn, by rw [hpl]⟩ (by rw [hpl]; exact Imp.refl _), rfl, rfl⟩
    · rename_i h3
      refine (device_bad p b at_ v bs ss s hbs hlen hb ha h2 (Nat.lt_of_not_le fun h4 => h3 ((all_true hcn h2).2 h4))).post ?_
      rintro u L' ⟨rfl, rfl⟩
      exact ⟨_, Imp.shutA1 ⟨b, v, ss⟩ ⟨hbs, hcn, rfl⟩ (Imp.refl _), rfl, rfl⟩
  · rename_i h2
    refine (device_out p b at_ v bs ss s hbs hlen hb ha hs (by omega)).post ?_
    rintro u L' ⟨rfl, rfl⟩
    exact ⟨_, Imp.shutA1 ⟨b, v, ss⟩ ⟨hbs, hcn, rfl⟩ (Imp.refl _), rfl, rfl⟩
theorem put16A (p at_ : Nat) (x : Nat) (bs : List UInt8) (lt : List Bool) (ha : at_ < 4294967296) (hx : x < 65536) :
    Sat Try.prog 69 [.pointer (some ⟨p, 0, none⟩), .int .u32 at_, .int .u16 x] [memA p bs lt] (fun u L' => u = .int .i64 ((writeE bs lt at_ (leB x 2) false 11).1 : Nat) ∧ L' = [memA p (writeE bs lt at_ (leB x 2) false 11).2 lt]) := by
  refine Sat.openA1 ?_
  rintro ⟨b, v, ss⟩ ⟨hbs, hcn, rfl⟩
  dsimp only
  obtain ⟨hlen, hb⟩ := canon_facts hcn hbs
  unfold writeE
  rw [leB_len]
  split
  · rename_i h2
    split
    · rename_i h3
      refine (put16_ok p b at_ v bs ss x hx hbs hlen hb ha h2 ((all_false hcn h2).1 h3)).post ?_
      rintro u L' ⟨rfl, rfl⟩
      have hpl := putB_len (bs := bs) (a := at_) (s := (leB x 2)) (by rw [leB_len]; exact h2)
      refine ⟨_, Imp.shutA1 ⟨b, v, ss⟩ ⟨by rw [hpl]; exact hbs, by rw [hpl]; exact hcn, by rw [hpl]⟩ (by rw [hpl]; exact Imp.refl _), rfl, rfl⟩
    · rename_i h3
      refine (put16_bad p b at_ v bs ss x hx hbs hlen hb ha h2 (Nat.pos_of_ne_zero fun h4 => h3 ((all_false hcn h2).2 h4))).post ?_
      rintro u L' ⟨rfl, rfl⟩
      exact ⟨_, Imp.shutA1 ⟨b, v, ss⟩ ⟨hbs, hcn, rfl⟩ (Imp.refl _), rfl, rfl⟩
  · rename_i h2
    refine (put16_out p b at_ v bs ss x hx hbs hlen hb ha (by omega)).post ?_
    rintro u L' ⟨rfl, rfl⟩
    exact ⟨_, Imp.shutA1 ⟨b, v, ss⟩ ⟨hbs, hcn, rfl⟩ (Imp.refl _), rfl, rfl⟩
theorem put32A (p at_ : Nat) (x : Nat) (bs : List UInt8) (lt : List Bool) (ha : at_ < 4294967296) (hx : x < 4294967296) :
    Sat Try.prog 85 [.pointer (some ⟨p, 0, none⟩), .int .u32 at_, .int .u32 x] [memA p bs lt] (fun u L' => u = .int .i64 ((writeE bs lt at_ (leB x 4) false 11).1 : Nat) ∧ L' = [memA p (writeE bs lt at_ (leB x 4) false 11).2 lt]) := by
  refine Sat.openA1 ?_
  rintro ⟨b, v, ss⟩ ⟨hbs, hcn, rfl⟩
  dsimp only
  obtain ⟨hlen, hb⟩ := canon_facts hcn hbs
  unfold writeE
  rw [leB_len]
  split
  · rename_i h2
    split
    · rename_i h3
      refine (put32_ok p b at_ v bs ss x hx hbs hlen hb ha h2 ((all_false hcn h2).1 h3)).post ?_
      rintro u L' ⟨rfl, rfl⟩
      have hpl := putB_len (bs := bs) (a := at_) (s := (leB x 4)) (by rw [leB_len]; exact h2)
      refine ⟨_, Imp.shutA1 ⟨b, v, ss⟩ ⟨by rw [hpl]; exact hbs, by rw [hpl]; exact hcn, by rw [hpl]⟩ (by rw [hpl]; exact Imp.refl _), rfl, rfl⟩
    · rename_i h3
      refine (put32_bad p b at_ v bs ss x hx hbs hlen hb ha h2 (Nat.pos_of_ne_zero fun h4 => h3 ((all_false hcn h2).2 h4))).post ?_
      rintro u L' ⟨rfl, rfl⟩
      exact ⟨_, Imp.shutA1 ⟨b, v, ss⟩ ⟨hbs, hcn, rfl⟩ (Imp.refl _), rfl, rfl⟩
  · rename_i h2
    refine (put32_out p b at_ v bs ss x hx hbs hlen hb ha (by omega)).post ?_
    rintro u L' ⟨rfl, rfl⟩
    exact ⟨_, Imp.shutA1 ⟨b, v, ss⟩ ⟨hbs, hcn, rfl⟩ (Imp.refl _), rfl, rfl⟩
theorem put64A (p at_ : Nat) (x : Nat) (bs : List UInt8) (lt : List Bool) (ha : at_ < 4294967296) (hx : x < 18446744073709551616) :
    Sat Try.prog 84 [.pointer (some ⟨p, 0, none⟩), .int .u32 at_, .int .u64 x] [memA p bs lt] (fun u L' => u = .int .i64 ((writeE bs lt at_ (leB x 8) false 11).1 : Nat) ∧ L' = [memA p (writeE bs lt at_ (leB x 8) false 11).2 lt]) := by
  refine Sat.openA1 ?_
  rintro ⟨b, v, ss⟩ ⟨hbs, hcn, rfl⟩
  dsimp only
  obtain ⟨hlen, hb⟩ := canon_facts hcn hbs
  unfold writeE
  rw [leB_len]
  split
  · rename_i h2
    split
    · rename_i h3
      refine (put64_ok p b at_ v bs ss x hx hbs hlen hb ha h2 ((all_false hcn h2).1 h3)).post ?_
      rintro u L' ⟨rfl, rfl⟩
      have hpl := putB_len (bs := bs) (a := at_) (s := (leB x 8)) (by rw [leB_len]; exact h2)
      refine ⟨_, Imp.shutA1 ⟨b, v, ss⟩ ⟨by rw [hpl]; exact hbs, by rw [hpl]; exact hcn, by rw [hpl]⟩ (by rw [hpl]; exact Imp.refl _), rfl, rfl⟩
    · rename_i h3
      refine (put64_bad p b at_ v bs ss x hx hbs hlen hb ha h2 (Nat.pos_of_ne_zero fun h4 => h3 ((all_false hcn h2).2 h4))).post ?_
      rintro u L' ⟨rfl, rfl⟩
      exact ⟨_, Imp.shutA1 ⟨b, v, ss⟩ ⟨hbs, hcn, rfl⟩ (Imp.refl _), rfl, rfl⟩
  · rename_i h2
    refine (put64_out p b at_ v bs ss x hx hbs hlen hb ha (by omega)).post ?_
    rintro u L' ⟨rfl, rfl⟩
    exact ⟨_, Imp.shutA1 ⟨b, v, ss⟩ ⟨hbs, hcn, rfl⟩ (Imp.refl _), rfl, rfl⟩
theorem hsort_of {n : Nat} {ss : List Spn} (h : Canon 0 n ss) : ∀ (m h' : Nat) (x y : Spn), m ≤ h' → ss[m]? = some x → ss[h']? = some y → x.1 ≤ y.1 := fun m h' x y => h.sort m h' x y
theorem lendA (p at_ l : Nat) (bs : List UInt8) (lt : List Bool) (ha : at_ < 4294967296) (hl : l < 4294967296) :
    Sat Try.prog 46 [.pointer (some ⟨p, 0, none⟩), .agg #[.int .u32 at_, .int .u32 l]] [memA p bs lt] (fun u L' => u = .int .i64 ((turnE lt at_ l true 11).1 : Nat) ∧ L' = [memA p bs (turnE lt at_ l true 11).2]) := by
  refine Sat.openA1 ?_
  rintro ⟨b, v, ss⟩ ⟨hbs, hcn, rfl⟩
  dsimp only
  obtain ⟨hlen, hb⟩ := canon_facts hcn hbs
  unfold turnE
  rw [flags_len]
  split
  · rename_i h1
    have h2 := h1.2
    split
    · rename_i h3
      refine (lend_ok p b at_ l v bs ss hbs hlen hb ha hl h1.1 h2 ((all_false hcn h2).1 h3) (hsort_of hcn)).post ?_
      rintro u L' ⟨v2, pre, post, rfl, he, g1, g2, rfl⟩
      obtain ⟨c1, c2⟩ := lend_plain hcn he g1 g2 h1.1 h2 ((all_false hcn h2).1 h3)
      exact ⟨_, Imp.shutA1 ⟨b, v2, _⟩ ⟨hbs, c1, lend_flags h2 c2⟩ (Imp.refl _), rfl, rfl⟩
    · rename_i h3
      refine (lend_bad p b at_ l v bs ss hbs hlen hb ha hl h1.1 h2 (Nat.pos_of_ne_zero fun h4 => h3 ((all_false hcn h2).2 h4))).post ?_
      rintro u L' ⟨rfl, rfl⟩
      exact ⟨_, Imp.shutA1 ⟨b, v, ss⟩ ⟨hbs, hcn, rfl⟩ (Imp.refl _), rfl, rfl⟩
  · rename_i h1
    refine (lend_out p b at_ l v bs ss hbs hlen hb ha hl (by omega)).post ?_
    rintro u L' ⟨rfl, rfl⟩
    exact ⟨_, Imp.shutA1 ⟨b, v, ss⟩ ⟨hbs, hcn, rfl⟩ (Imp.refl _), rfl, rfl⟩
theorem backA (p at_ l : Nat) (bs : List UInt8) (lt : List Bool) (ha : at_ < 4294967296) (hl : l < 4294967296) :
    Sat Try.prog 88 [.pointer (some ⟨p, 0, none⟩), .agg #[.int .u32 at_, .int .u32 l]] [memA p bs lt] (fun u L' => u = .int .i64 ((turnE lt at_ l false 12).1 : Nat) ∧ L' = [memA p bs (turnE lt at_ l false 12).2]) := by
  refine Sat.openA1 ?_
  rintro ⟨b, v, ss⟩ ⟨hbs, hcn, rfl⟩
  dsimp only
  obtain ⟨hlen, hb⟩ := canon_facts hcn hbs
  unfold turnE
  rw [flags_len]
  split
  · rename_i h1
    have h2 := h1.2
    split
    · rename_i h3
      refine (back_ok p b at_ l v bs ss hbs hlen hb ha hl h1.1 h2 ((all_true hcn h2).1 h3)).post ?_
      rintro u L' ⟨v2, rfl, rfl⟩
      obtain ⟨c1, c2⟩ := back_plain h1.1 hcn (hcn.one h1.1 ((shared_all hcn at_ l).1 ((all_true hcn h2).1 h3)))
      exact ⟨_, Imp.shutA1 ⟨b, v2, _⟩ ⟨hbs, c1, back_flags h2 c2⟩ (Imp.refl _), rfl, rfl⟩
    · rename_i h3
      refine (back_bad p b at_ l v bs ss hbs hlen hb ha hl h1.1 h2 (Nat.lt_of_not_le fun h4 => h3 ((all_true hcn h2).2 h4))).post ?_
      rintro u L' ⟨rfl, rfl⟩
      exact ⟨_, Imp.shutA1 ⟨b, v, ss⟩ ⟨hbs, hcn, rfl⟩ (Imp.refl _), rfl, rfl⟩
  · rename_i h1
    refine (back_out p b at_ l v bs ss hbs hlen hb ha hl (by omega)).post ?_
    rintro u L' ⟨rfl, rfl⟩
    exact ⟨_, Imp.shutA1 ⟨b, v, ss⟩ ⟨hbs, hcn, rfl⟩ (Imp.refl _), rfl, rfl⟩
theorem sizeA (p : Nat) (bs : List UInt8) (lt : List Bool) :
    Sat Try.prog 81 [.pointer (some ⟨p, 0, none⟩)] [memA p bs lt] (fun u L' => u = .int .i64 (bs.length : Nat) ∧ L' = [memA p bs lt]) := by
  refine Sat.openA1 ?_
  rintro ⟨b, v, ss⟩ ⟨hbs, hcn, rfl⟩
  dsimp only
  obtain ⟨hlen, hb⟩ := canon_facts hcn hbs
  refine ((size_spec p bs.length bs.length (some ⟨b, 0, none⟩) v).frame (F := [row 5 b (bs.map byteV), sl 113 2 v ss.length (spans ss)])).post ?_
  rintro u L' ⟨_, ⟨rfl, rfl⟩, rfl⟩
  exact ⟨_, Imp.shutA1 ⟨b, v, ss⟩ ⟨hbs, hcn, rfl⟩ (Imp.refl _), rfl, rfl⟩
end Go.Proofs.Ytimaecgdahmmdaa

