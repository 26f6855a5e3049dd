/- Lemmas for the proofs of this seat: no statement of the seat is claimed here. -/
import Derived.Test.YtmhkmcoobpfkcaaKo
set_option linter.all false

namespace Go.Proofs.Ytmhkmcoobpfkcaa
open Go Pw
set_option maxRecDepth 20000
set_option maxHeartbeats 4000000
set_option synthInstance.maxHeartbeats 400000
set_option synthInstance.maxSize 4000

abbrev boolV (b : Bool) : List Value := [.bool b]
instance : FLen boolV 1 := ⟨fun _ => rfl⟩
instance : FLen boolV (0 + 1) := ⟨fun _ => rfl⟩
theorem pkt0 : (default : Pkt).okw := ⟨by decide, by decide, by decide, by decide, by decide, by decide, by decide⟩

end Go.Proofs.Ytmhkmcoobpfkcaa

