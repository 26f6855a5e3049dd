/- Lemmas for the proofs of this seat: no statement of the seat is claimed here. -/
import Derived.Test.YtcidilijlgaohaaDoorPxG
set_option linter.all false
namespace Pw
open Go
/-! ## Yields, from within and from without -/
section
variable {P : Program} {r : Rd} {c : Ctx} {L R : List Assn} {E : Env} {Q : Exit → Env → Rd → World → Prop} {l : Nat} {o : Loop} {B : List Assn → Prop} {body : Code}
instance : CalmC (endQ c l o R B) := ⟨fun _ _ _ _ h => h⟩
instance : CalmC (thenR P c l o body Q) := ⟨fun _ _ _ _ h => h⟩
theorem TQ.thenR (h : T P ⟨some l, []⟩ c (pt l (.loop (busy o)) :: L) body Q E) : TQ ⟨some l, []⟩ c (pt l (.loop o) :: L) (thenR P c l o body Q) .normal E := by
  unfold TQ
  intro w hw
  exact ⟨L, hw, rfl, h⟩
theorem TQ.endR {L1 : List Assn} (hB : B L1) (hL : Ent c L (pt l (.loop (busy o)) :: (L1 ++ R))) : TQ r c L (endQ c l o R B) .normal E := by
  unfold TQ
  intro w hw
  exact ⟨L1, hB, hL w hw⟩
theorem Yl.of1 {n t : Nat} {le : List (Nat × Value)} {ge : Nat → Value} {f : FuncId} {assign body : Code} {m : Nat} {v : Value} {A : List Assn}
    (h : ∀ R, T P ⟨some l, []⟩ c (pt l (.loop (lrec f ⟨n, le, ge⟩ #[t] assign body m)) :: (A ++ R)) assign (Pw.thenR P c l (lrec f ⟨n, le, ge⟩ #[t] assign body m) body (endQ c l (lrec f ⟨n, le, ge⟩ #[t] assign body m) R B)) ⟨n, (t, v) :: le, ge⟩) :
    Yl P c l (lrec f ⟨n, le, ge⟩ #[t] assign body m) [v] A B := fun R => ⟨⟨n, (t, v) :: le, ge⟩, by
  have h1 := Env.act_put ⟨n, le, ge⟩ (some t) v
  have h2 := congrArg Act.tmps h1
  refine h2.symm.trans ?_
  simp [lrec, Act.put], h R⟩
theorem Pick.app : ∀ (A R : List Assn), Pick A (A ++ R) R
  | [], R => .nil R
  | X :: A, R => .cons (.head _ _) (Pick.app A R)
theorem perm2 {X Y : Assn} {A R : List Assn} : (X :: Y :: (A ++ R)).Perm (A ++ (X :: Y :: R)) :=
  ((List.Perm.cons X (List.perm_middle.symm : (Y :: (A ++ R)).Perm (A ++ Y :: R)))).trans (List.perm_middle.symm)
theorem TO.yl {nt ds : Nat} {le : List (Nat × Value)} {gb : Nat → Value} {ops : Array Oper} {rest : List Oper} {fo : Operand} {x : Operand} {ats : Array TypeId} {ty : TypeId} {pos : String} {af : Array Edge} {v v' : Value} {A : List Assn} {X Y : Assn}
    (hy : Yl P c l o [v'] A B) (hv : v = v') (hn : 1 = o.params.size) (hs : o.state = .ready) (hpd : o.pending = none)
    (k : ∀ L1, B L1 → TO P r c (pt l (.loop o) :: X :: Y :: (L1 ++ R)) ops Q rest ⟨nt, (ds, .bool true) :: le, gb⟩)
    (hf : Env.eval ⟨nt, le, gb⟩ fo = .func (.yield l) #[] #[] := by rfl) (ha : Env.eval ⟨nt, le, gb⟩ x = v := by conv => lhs; whnf) :
    TO P r c (pt l (.loop o) :: X :: Y :: (A ++ R)) ops Q (⟨some ds, .call ⟨.value fo, #[x], ats⟩, ty, pos, af, none⟩ :: rest) ⟨nt, le, gb⟩ := by
  refine TO.ent (Ent.perm (.cons _ perm2)) (TO.n (N.yield (B := B) (xs := [x]) (vs := [v]) hf ⟨ha, trivial⟩ (by rw [hv]; exact hy) (Pick.cons (.head _ _) (Pick.app A _)) hn hs hpd) ?_)
  rintro v L' ⟨rfl, L1, hB, rfl⟩
  exact TO.ent (Ent.perm (.cons _ perm2.symm)) (k L1 hB)
instance {fn : Go.Fn} {us vs : List Value} : Pu P (.mkFunc fn us vs) (fun q => q (.func fn us.toArray vs.toArray)) :=
  ⟨fun E d op ty pos af g hs q hq => by cases hs with | mkFunc h1 h2 => exact ⟨_, DP.mfL h1 h2, hq⟩⟩
instance (priority := 700) {xs ys us : List Value} {j : Nat} {v : Value} {C : Prop} [h : SetV xs j v us C] : SetV (xs ++ ys) j v (us ++ ys) (C ∧ j < xs.length) := ⟨fun hc => by
  have h1 := h.h hc.1
  rw [List.set_append_left _ _ h1.2, h1.1]
  exact ⟨rfl, by rw [List.length_append]; omega⟩⟩
instance {a b : UInt8} : Inv byteV (.int .u8 ((a.toNat ^^^ b.toNat : Nat) : Int)) (a ^^^ b) True := ⟨fun _ => by simp [byteV]⟩
theorem T.useE {P : Program} {n : Nat} {l0 K : List (Nat × Value)} {g0 : Nat → Value} {x x' : Code} {L : List Assn} {Q : Exit → Env → Rd → World → Prop} (h : ∀ g, T P r c L x' Q ⟨n, K, g⟩)
    (hK : Env.has ⟨n, l0, g0⟩ K := by repeat' first | exact trivial | refine ⟨?_, ?_⟩ | (conv => lhs; whnf)) (e : x = x' := by conv => rhs; whnf) : T P r c L x Q ⟨n, l0, g0⟩ := T.norm hK fun g => e ▸ h g
theorem TQ.nnM {dm : List Nat} {y : Code} (h : T P ⟨none, dm⟩ c L y Q E) : TQ ⟨none, dm⟩ c L (thenQ P R0 y Q) .normal E := by
  unfold T at h
  unfold TQ
  exact fun w hw => h w hw
instance {dm : List Nat} {y : Code} : Go1 (TQ ⟨none, dm⟩ c L (thenQ P R0 y Q) .normal E) (T P ⟨none, dm⟩ c L y Q E) := ⟨TQ.nnM⟩
theorem TQ.atRet {fn : Func} {B : Value → List Assn → Prop} (h : TQ r c L (retQ P fn c R B) .ret E) : TQ r c L (retQ P fn c R B) .ret E := h
theorem T.atG {f : Operand} {ps : Array Tmp} {x y : Code} (h : T P r c L (.rangeFunc f ps x y) Q E) : T P r c L (.rangeFunc f ps x y) Q E := h
theorem TQ.finM {fn : Func} {B : Value → List Assn → Prop} {rs : List ResultVar} {vs : List Value} {m : Nat} {L0 : List Assn} (h : Fini c L0 R B (asResult vs)) (hd : Del (pt m (.deferred (some []))) L L0 := by repeat (first | exact Del.head _ _ | apply Del.tail)) (hr : fn.results = rs.toArray := by rfl) (hv : rvF E rs = some vs := by conv => lhs; whnf) : TQ ⟨none, [m]⟩ c L (retQ P fn c R B) .ret E := by
  have h1 := rvF_ok (P := P) (c := c) (L := L0) hv
  unfold Fini at h
  obtain ⟨L', h3, h4⟩ := h
  exact TQ.retM (L0 := L0) (Ent.perm hd.perm) hr h1 h3 h4
theorem TQ.shut {ex : Exit} {b n k : Nat} {e : TypeId} {xs rest : List Value} (hx : xs.length = n) (hr : rest.length = k) (h : TQ r c (sl e 1 (.slice (some ⟨b, 0, none⟩) n (n + k)) n xs :: R) Q ex E) (hd : Del (row e b (xs ++ rest)) L R := by repeat (first | exact Del.head _ _ | apply Del.tail)) : TQ r c L Q ex E :=
  TQ.ent (Ent.trans (Ent.perm hd.perm) (Ent.sl (by rw [hx, Nat.mul_one]) (by rw [hr, Nat.mul_one]))) h
theorem SatC.post {f : FuncId} {args : List Value} {A : List Assn} {B B' : Value → List Assn → Prop} (h : SatC P c f args A B) (hB : ∀ v L', B v L' → B' v L') : SatC P c f args A B' := fun R w hw => (h R w hw).mono (by
  rintro e w' ⟨v, L', h1, h2, h3⟩
  exact ⟨v, L', h1, hB v L' h2, h3⟩)
end
end Pw
