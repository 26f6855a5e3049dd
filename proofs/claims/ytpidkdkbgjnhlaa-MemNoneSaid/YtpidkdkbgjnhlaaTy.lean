/- Lemmas for the proofs of this seat: no statement of the seat is claimed here. -/
import Derived.Test.YtpidkdkbgjnhlaaProg
import Derived.Test.YtpidkdkbgjnhlaaPw
import Derived.KernelRfl
set_option linter.all false
namespace Go.Proofs.Ytpidkdkbgjnhlaa
open Go Pw
theorem ag42 : aggT Try.prog 42 = true := by kernel_rfl
theorem by5 : Try.prog.bytesOf 5 = 1 := by kernel_rfl
theorem by42 : Try.prog.bytesOf 42 = 8 := by kernel_rfl
theorem gd42 : Try.prog.eqGuardType Try.prog.depth 42 = false := by kernel_rfl
theorem is3 : (Try.prog.underlying 3).isSome = true := by kernel_rfl
theorem is5 : (Try.prog.underlying 5).isSome = true := by kernel_rfl
theorem is22 : (Try.prog.underlying 22).isSome = true := by kernel_rfl
theorem is30 : (Try.prog.underlying 30).isSome = true := by kernel_rfl
theorem is31 : (Try.prog.underlying 31).isSome = true := by kernel_rfl
theorem is107 : (Try.prog.underlying 107).isSome = true := by kernel_rfl
theorem pc42 : placesOf Try.prog 42 = some [(0, 1), (1, 1)] := by kernel_rfl
theorem pc78 : placesOf Try.prog 78 = some [(0, 1), (1, 1)] := by kernel_rfl
theorem pc89 : placesOf Try.prog 89 = some [(0, 1), (1, 1), (2, 1), (3, 1)] := by kernel_rfl
theorem pl3 : plainT Try.prog 3 = true := by kernel_rfl
theorem pl5 : plainT Try.prog 5 = true := by kernel_rfl
theorem pl26 : plainT Try.prog 26 = true := by kernel_rfl
theorem pl30 : plainT Try.prog 30 = true := by kernel_rfl
theorem pl36 : plainT Try.prog 36 = true := by kernel_rfl
theorem pl46 : plainT Try.prog 46 = true := by kernel_rfl
theorem pl49 : plainT Try.prog 49 = true := by kernel_rfl
theorem si42 : Try.prog.stoodInHeld 42 = false := by kernel_rfl
theorem sz3 : Try.prog.cellsOf 3 = 0 + 1 := by kernel_rfl
theorem sz5 : Try.prog.cellsOf 5 = 0 + 1 := by kernel_rfl
theorem sz26 : Try.prog.cellsOf 26 = 0 + 1 := by kernel_rfl
theorem sz30 : Try.prog.cellsOf 30 = 0 + 1 := by kernel_rfl
theorem sz36 : Try.prog.cellsOf 36 = 0 + 1 := by kernel_rfl
theorem sz42 : Try.prog.cellsOf 42 = 1 + 1 := by kernel_rfl
theorem sz49 : Try.prog.cellsOf 49 = 0 + 1 := by kernel_rfl
theorem zr5 : Try.prog.zeroOf 5 = some (.int .u8 0) := by kernel_rfl
theorem zr42 : Try.prog.zeroOf 42 = some (.agg #[.int .u32 0, .int .u32 0]) := by kernel_rfl
theorem zr78 : Try.prog.zeroOf 78 = some (.agg #[.slice none 0 0, .slice none 0 0]) := by kernel_rfl
theorem zr89 : Try.prog.zeroOf 89 = some (.agg #[.pointer none, .int .u32 0, .int .i64 0, .slice none 0 0]) := by kernel_rfl
theorem mixed : Try.prog.follows .mixedOrders = true := by kernel_rfl
end Go.Proofs.Ytpidkdkbgjnhlaa
