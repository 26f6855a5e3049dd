/- Lemmas for the proofs of this seat: no statement of the seat is claimed here. -/
import Derived.Test.YtbandaebilkkkaaDoorProg
import Derived.Test.YtbandaebilkkkaaDoorPw
import Derived.KernelRfl
set_option linter.all false
namespace Go.Proofs.YtbandaebilkkkaaDoor
open Go Pw
theorem mixed : Tryd.prog.follows .mixedOrders = true := by kernel_rfl
end Go.Proofs.YtbandaebilkkkaaDoor
