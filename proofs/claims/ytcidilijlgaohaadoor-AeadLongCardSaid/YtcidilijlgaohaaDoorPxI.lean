/- Lemmas for the proofs of this seat: no statement of the seat is claimed here. -/
import Derived.Test.YtcidilijlgaohaaDoorPxH
set_option linter.all false
namespace Pw
open Go
/-! ## append(s, make([]byte, m)...) -/
section
variable {P : Program} {r : Rd} {c : Ctx} {L R : List Assn} {E : Env} {d : Option Tmp} {ty : TypeId} {pos : String} {af : Array Edge} {g : Option (Nat × Bool)}
theorem append_zeros {t xt st e : TypeId} {k k' : IntKind} {base : Option Addr} {n cap m by_ : Nat} {z : Value} (ht : P.underlying t = some (.slice e)) (hxt : P.underlying xt = some (.int k)) (hst : P.underlying st = some .string) (hsz : P.cellsOf e = 0 + 1) (hb : P.bytesOf e = by_) (hz : P.zeroOf e = some z) (hzc : z.cells = #[.int .u8 0]) (hlim : (n + m) * (by_ + 1) ≤ 140737488355328) (w : World) :
    (Builtin.append_ #[t, xt] ty #[.slice base n cap, .int k' (m : Nat)]).run P w = (Builtin.append_ #[t, st] ty #[.slice base n cap, str (List.replicate m 0)]).run P w := by
  obtain ⟨i, hi, hie⟩ : ∃ i, P.info? e = some i ∧ i.bytes = by_ := by
    unfold Program.cellsOf at hsz
    cases hi : P.info? e with
    | none => simp [hi] at hsz
    | some i => exact ⟨i, rfl, by unfold Program.bytesOf at hb; simpa [hi] using hb⟩
  have hti : ∀ w, (typeInfo e).run P w = .ok i w := fun w => by simp [typeInfo, hi]
  have hnm : n + m ≤ 140737488355328 := Nat.le_trans (Nat.le_mul_of_pos_right _ (by omega)) hlim
  have hbm : (n + m) * by_ ≤ 140737488355328 := Nat.le_trans (Nat.mul_le_mul_left _ (by omega)) hlim
  have hmb : m * by_ ≤ 140737488355328 := Nat.le_trans (Nat.mul_le_mul_right _ (by omega)) hbm
  have hmbi : (m : Int) * (by_ : Int) ≤ 140737488355328 := by rw [← Int.natCast_mul]; omega
  have hw64 : IntKind.i64.wrap (m : Int) = m := wrap_nat (by simp [IntKind.lim, IntKind.signed, IntKind.bits]; omega)
  have hneg : ¬ ((m : Int) < 0) := by omega
  have h48a : ¬ ((m : Int) * (i.bytes : Int) > 2 ^ 48) := by rw [hie]; omega
  have hmax : ∀ b : Bool, ¬ (((n + m : Nat) : Int) > IntKind.i64.max ∧ (b = true ∨ i.bytes = 0)) := by
    intro b h; have := h.1; simp at this; omega
  have hz0 : ∀ w, (zeroValue e).run P w = .ok z w := run_zeroValue hz
  have hzr : Builtin.zeroCells #[.int .u8 0] m = ((List.replicate m (0 : UInt8)).map byteV).toArray := by
    have := zeroCells_rep [.int .u8 0] (by decide) m
    rw [this, ← rep_map byteV 0 m]; rfl
  have hstr : ((str (List.replicate m 0)) : Value) = .string ⟨(List.replicate m 0).toArray⟩ := rfl
  simp only [Builtin.append_, List.getElem?_toArray, List.getElem?_cons_zero, List.getElem?_cons_succ, hstr]
  simp only [Sem.run_bind, Sem.run_pure, Result.andThen_ok, run_underlying ht, run_underlying hxt, run_underlying hst, run_sizeOf hsz, if_true, asInt, run_asIntOf, hw64, Sem.run_ite, hneg, if_false, hti, h48a, Int.toNat_natCast, Bool.false_eq_true, Builtin.lenOf]
  have hsize : (⟨(List.replicate m (0 : UInt8)).toArray⟩ : ByteArray).size = m := by simp [ByteArray.size]
  have hf : ∀ w', (Builtin.firstCells (0 + 1) m (.string ⟨(List.replicate m (0 : UInt8)).toArray⟩)).run P w' = .ok ((List.replicate m (0 : UInt8)).map byteV).toArray w' := fun w' => by
    simp [Builtin.firstCells]
  have hA : ∀ w' : World, (if m * (0 + 1) = 0 then Result.ok #[] w' else Result.ok (Builtin.zeroCells z.cells m) w') = Result.ok ((List.replicate m (0 : UInt8)).map byteV).toArray w' := fun w' => by
    split
    · next h => have : m = 0 := by omega
                subst this; rfl
    · rw [hzc, hzr]
  have hgt : (((n + m : Nat) : Int) > IntKind.i64.max) = False := by
    apply eq_false; intro h; simp at h; omega
  simp only [hsize, Bool.not_true, Bool.not_false, Bool.false_eq_true, if_true, if_false, hz0, hf, Result.andThen_ok, hA, hgt, false_and]
  by_cases hroom : n + m ≤ cap
  · simp only [hroom, if_true]
  · have hk48 : (Builtin.nextslicecap (n + m) cap * i.bytes > 2 ^ 48) = False := by
      have := growslice_fits (need := n + m) (old := cap) (bytes := i.bytes) (by omega) (by rw [hie]; exact hbm)
      apply eq_false; omega
    simp only [hroom, hk48, if_false]
theorem N.same {o o' : Op} {Φ : Value → List Assn → Prop} (h1 : ∀ d, o ≠ .defer d) (h2 : ∀ d, o' ≠ .defer d) (he : ∀ w, (execOp E.eval ⟨d, o, ty, pos, af, g⟩).run P w = (execOp E.eval ⟨d, o', ty, pos, af, g⟩).run P w) (h : N P r c L E ⟨d, o', ty, pos, af, g⟩ Φ) : N P r c L E ⟨d, o, ty, pos, af, g⟩ Φ := by
  unfold N at *
  intro w hw K Q hK
  have h3 := (h w hw K Q hK).2
  refine ⟨fun _ _ => trivial, ?_⟩
  rw [Oper.semAt_eq _ _ _ h2, E.acd_eval] at h3
  rw [Oper.semAt_eq _ _ _ h1, E.acd_eval, he w]
  exact h3
class StrT (P : Program) (st : outParam TypeId) : Prop where h : P.underlying st = some .string
instance {t xt st e e' : TypeId} {a : Option Addr} {n k m by_ : Nat} {kx k' : IntKind} {x : Int} {xs : List UInt8} {z : Value} [ht : Und P t (.slice e)] [hxt : Und P xt (.int kx)] [hst : StrT P st] [hz : Sz P e 0] [hb : By P e by_] [hzr : Zr P e z] [hcz : Cel z [.int .u8 0]] [hx : Nn x m]
    [hd : SlAt L (.slice a n k) e' 1 n (xs.map byteV) R] :
    St P c L (.builtin .append [.slice a n k, .int k' x] [t, xt]) (fun q => Vc (e' = e ∧ (n + m) * (by_ + 1) ≤ 140737488355328) (∀ a2 k2, q (.slice a2 (n + m) k2) (sl e 1 (.slice a2 (n + m) k2) (n + m) ((xs ++ List.replicate m 0).map byteV) :: R))) :=
  ⟨fun r E d op ty pos af g hs q hq => by
    cases hs with | builtin ev =>
    rename_i xs_
    obtain ⟨⟨rfl, hlim⟩, hq⟩ := hq
    match xs_, ev with
    | [x, y], ⟨e1, e3, _⟩ =>
      rw [hx.h] at e3
      have hl : (List.replicate m (0 : UInt8)).length = m := List.length_replicate
      have hN := (N.app (c := c) (L := L) (r := r) (d := d) (ty := ty) (pos := pos) (af := af) (g := g) (x := x) (y := .const (str (List.replicate m 0))) (xt := st) e1 rfl ht.h hz.h hb.h hzr.h (cellsL_eq z) (by rw [hcz.h]; rfl) hd.h (Src.str hst.h rfl) (fun u hu => by obtain ⟨x, _, rfl⟩ := List.mem_map.1 hu; rfl) (by rw [hl]; exact hlim)).imp2 (Ψ := q) fun v L' w h5 hw => by
        subst h5
        obtain ⟨a2, k2, rfl⟩ := hw.sl_form
        rw [hl, ← List.map_append]
        exact hq a2 k2
      refine N.same (fun _ => by simp) (fun _ => by simp) (fun w => ?_) hN
      have hrun : ∀ (yy : Operand) (tt : TypeId), (execOp E.eval ⟨d, .call ⟨.builtin .append, #[x, yy], #[t, tt]⟩, ty, pos, af, g⟩).run P w = ((Builtin.append_ #[t, tt] ty #[.slice a n k, E.eval yy]).run P w).andThen (fun a w' => Result.ok (Next.value a) w') := fun yy tt => by
        simp [execOp, resolve, invoke, builtin, e1]
      refine (hrun y xt).trans (Eq.trans ?_ (hrun _ st).symm)
      rw [e3]
      rw [append_zeros ht.h hxt.h hst.h hz.h hb.h hzr.h (by rw [cellsL_eq z, hcz.h]) hlim w]
      rfl⟩
/-! minus a length, and its lowest four bits -/
instance {t : TypeId} {x : Int} {n : Nat} [hx : Nn x n] : Pu P (.un .neg t (.int .i64 x)) (fun q => Vc (n < 4611686018427387904) (q (.int .i64 (-(n : Int))))) := ⟨fun E d op ty pos af g hr k hk => by
  cases hr with
  | un h =>
    rw [hx.h] at h
    have hl := hk.l
    have hw : IntKind.i64.wrap (-(n : Int)) = -(n : Int) := by
      simp [IntKind.wrap, IntKind.signed, IntKind.bits, Int.bmod]; omega
    exact ⟨_, by unfold DP; exact ⟨fun _ => by simp, fun w => by simp [execOp, h, Op.unary, Op.intArith, hw]⟩, hk.r⟩⟩
theorem negmask {n : Nat} (h : n < 4611686018427387904) : IntKind.i64.wrap (((BitVec.ofInt IntKind.i64.bits (-(n : Int)) &&& BitVec.ofInt IntKind.i64.bits 15).toNat : Nat) : Int) = (((16 - n % 16) % 16 : Nat) : Int) := by
  have e1 : (BitVec.ofInt IntKind.i64.bits (-(n : Int)) &&& BitVec.ofInt IntKind.i64.bits 15).toNat = (16 - n % 16) % 16 := by
    rw [BitVec.toNat_and]
    have h15 : (BitVec.ofInt IntKind.i64.bits 15).toNat = 2 ^ 4 - 1 := by decide
    rw [h15, Nat.and_two_pow_sub_one_eq_mod, BitVec.toNat_ofInt]
    simp only [IntKind.bits]
    omega
  rw [e1]
  exact wrap_nat (by simp [IntKind.lim, IntKind.signed, IntKind.bits]; omega)
instance (priority := 1200) {t : TypeId} {n : Nat} : Pu P (.bin .and t (.int .i64 (-(n : Int))) (.int .i64 15)) (fun q => Vc (n < 4611686018427387904) (q (.int .i64 (((16 - n % 16) % 16 : Nat) : Int)))) := ⟨fun E d op ty pos af g hr k hk => by
  cases hr with
  | bin h1 h2 =>
    exact ⟨_, by unfold DP; exact ⟨fun _ => by simp, fun w => by simp only [execOp, h1, h2, eqGuard_and, binOp_and, Op.intBits, negmask hk.l]; simp⟩, hk.r⟩⟩
instance (priority := 1050) {t e : TypeId} {k k' : IntKind} {x y : Int} {n n' sz by_ : Nat} {z : Value} {zs ys : List Value} [ht : Und P t (.slice e)] [hs : Sz P e sz] [hb : By P e by_] [hz : Zr P e z] [hc : Cel z zs] [hl : Len zs (sz + 1)] [hx : Nn x n] [hy : Nn y n'] [hr : RepV zs n ys] :
    St P c L (.mkSlice t (.int k x) (.int k' y)) (fun q => Vc (n' = n ∧ n * (by_ + 1) ≤ 281474976710656) (∀ b, q (.slice (some ⟨b, 0, none⟩) n n) (sl e (sz + 1) (.slice (some ⟨b, 0, none⟩) n n) n ys :: L))) :=
  ⟨fun r E d op ty pos af g hs' q hq => by
    cases hs' with | mkSlice e1 e2 =>
    obtain ⟨⟨hnn, hlim⟩, hq⟩ := hq
    rw [hx.h] at e1; rw [hy.h, hnn] at e2
    refine N.ent (N.mk e1 e2 ht.h hs.h hb.h hz.h (cellsL_eq z) (by rw [hc.h]; exact hl.h) hlim) ?_
    rintro v L' ⟨b, rfl, rfl⟩
    refine ⟨sl e (sz + 1) (.slice (some ⟨b, 0, none⟩) n n) n ys :: L, ?_, hq b⟩
    have h1 : (List.replicate n (cellsL z)).flatten = ys := by rw [hc.h]; exact hr.h
    rw [h1]
    have h2 : ys.length = n * (sz + 1) := by rw [← h1, flatten_rep_length, hc.h, hl.h]
    have h3 := Ent.sl (c := c) (L := L) (e := e) (b := b) (n := n) (sz := sz + 1) (k := 0) (xs := ys) (rest := []) h2 (by simp)
    rw [List.append_nil, Nat.add_zero] at h3
    exact h3⟩
end
end Pw
