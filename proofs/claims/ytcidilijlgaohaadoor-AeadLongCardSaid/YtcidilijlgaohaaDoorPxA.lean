/- Lemmas for the proofs of this seat: no statement of the seat is claimed here. -/
import Derived.Test.YtcidilijlgaohaaDoorPx9
set_option linter.all false
namespace Pw
open Go
/-- A step. -/
theorem stp {G G' : Prop} (k : G') (h : G' → G := by
  first
  | exact Go1.go
  | exact fun k => TO.s (by conv => lhs; whnf) k
  | exact fun k => TO.s0 (by conv => lhs; whnf) k
  | exact fun k => T.condT rfl k
  | exact fun k => T.condF rfl k
  | exact fun k => T.cD rfl k
  | exact fun k => T.cB rfl k
  | exact fun k => TO.off rfl rfl k
  | exact fun k => TO.offU rfl k
  | exact fun k => TO.gy rfl (by conv => lhs; whnf) k
  | exact fun k => TO.gD rfl rfl rfl k
  | ((fail_if_success (exact fun k => TO.kT rfl rfl k)); (fail_if_success (exact fun k => TO.kF rfl rfl k)); exact fun k => TO.gS rfl rfl rfl k)
  | exact fun k => TQ.bo rfl k
  | exact fun k => TQ.fin k
  | exact fun k => TQ.finN k
  | exact fun k => Vc.mk (by (repeat' first | omega | assumption | trivial | rfl | refine ⟨?_, ?_⟩ | (rw [List.length_map]; first | assumption | omega) | exact Nat.lt_of_le_of_lt (Nat.div_le_self _ _) (by omega) | exact Nat.lt_of_lt_of_le (UInt8.toNat_lt _) (by decide)); first | done | fail) k
  | exact fun k => Ei.t (by first | omega | exact Nat.lt_of_lt_of_le (UInt8.toNat_lt _) (by decide)) k
  | exact fun k => Opt.n (by assumption) k
  | exact fun k => Opt.s (by assumption) k
  | exact fun k => TS.p0 rfl (by conv => lhs; whnf) k
  | exact fun k => TS.d0 rfl (by conv => lhs; whnf) k
  | exact fun k => TS.one k
  | exact fun k => TN.r0 rfl (by conv => lhs; whnf) k
  | exact fun k => TN.s0 rfl rfl (by conv => lhs; whnf) k
  | exact fun k => TN.sz rfl rfl (by conv => lhs; whnf) k
  | exact fun k => TS.fin k
  | exact fun k => TS.pn rfl rfl rfl k
  | exact fun k => TS.pu rfl rfl k
  | exact fun k => TS.py rfl rfl (by conv => lhs; whnf) k
  | exact fun k => TS.dn rfl rfl rfl k
  | exact fun k => TS.du rfl rfl k
  | exact fun k => TS.dy rfl rfl (by conv => lhs; whnf) k
  | exact fun k => TN.no rfl rfl rfl k
  | exact fun k => TN.nu rfl rfl k
  | exact fun k => TN.ry rfl rfl (by conv => lhs; whnf) k
  | exact fun k => TN.sy rfl rfl rfl (by conv => lhs; whnf) k
  | exact fun k => TS.two k
  | exact fun k => TS.three k
  | exact fun k => TS.gD rfl rfl k
  | ((fail_if_success (exact fun k => TS.kT rfl rfl k)); (fail_if_success (exact fun k => TS.kF rfl rfl k)); exact fun k => TS.gS rfl rfl k)) : G := h k
end Pw
