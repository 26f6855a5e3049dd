/- Lemmas for the proofs of this seat: no statement of the seat is claimed here. -/
import Derived.Test.YtcidilijlgaohaaDoorPxE
set_option linter.all false
namespace Pw
open Go
/-! ## copy, little tools for bytes in rows -/
section
variable {P : Program} {r : Rd} {c : Ctx} {L R : List Assn} {Q : Exit → Env → Rd → World → Prop} {E : Env}
instance (priority := 700) {xs ys : List Value} {j : Nat} {v : Value} {C : Prop} [h : ElV xs j v C] : ElV (xs ++ ys) j v (C ∧ j < xs.length) := ⟨fun hc => by rw [List.getElem?_append_left hc.2]; exact h.h hc.1⟩
/-- A slice that owns its array is opened. -/
theorem T.osl {code : Code} {e : TypeId} {n k : Nat} {a : Option Addr} {xs : List Value} (hn : 0 < n)
    (h : ∀ b j rest, a = some ⟨b, 0, none⟩ → k = n + j → rest.length = j → xs.length = n → T P r c (row e b (xs ++ rest) :: R) code Q E)
    (hd : Del (sl e 1 (.slice a n k) n xs) L R := by repeat (first | exact Del.head _ _ | apply Del.tail)) : T P r c L code Q E :=
  T.open_sl hd (fun _ h2 _ => by omega) (fun b j rest h1 h2 h3 => by
    simp only [Value.slice.injEq] at h1
    exact h b j rest h1.1 h1.2.2 (by simpa using h3) (by simpa using h2))
class RowDel (L : List Assn) (b : Nat) (e : outParam TypeId) (cs : outParam (List Value)) (R : outParam (List Assn)) : Prop where h : Del (row e b cs) L R
instance (priority := 1100) {L : List Assn} {b : Nat} {e : TypeId} {cs : List Value} : RowDel (row e b cs :: L) b e cs L := ⟨.head _ _⟩
instance {A : Assn} {L R : List Assn} {b : Nat} {e : TypeId} {cs : List Value} [h : RowDel L b e cs R] : RowDel (A :: L) b e cs (A :: R) := ⟨.tail h.h⟩
theorem Del.put {A B : Assn} : ∀ {L R : List Assn}, Del A L R → ∃ L', Put A L B L' ∧ Del B L' R
  | _, _, .head _ L => ⟨_, .head _ _ _, .head _ _⟩
  | _, _, .tail h => let ⟨L', h1, h2⟩ := Del.put h; ⟨_, .tail h1, .tail h2⟩
/-- Where a copy comes from. -/
class SrcA (P : Program) (L : List Assn) (sz : Nat) (xt : TypeId) (xv : Value) (m : outParam Nat) (news : outParam (List Value)) (C : outParam Prop) : Prop where h : C → ∀ {c : Ctx} {r : Rd} {E : Env} {o : Oper} {k : Value → List Assn → Prop}, (Src P c L sz xt xv m news → N P r c L E o k) → N P r c L E o k
instance {sz : Nat} {xt : TypeId} {l : List UInt8} [ht : Und P xt .string] : SrcA P L sz xt (str l) l.length (l.map byteV) (sz = 1) := ⟨fun hs _ _ _ _ _ k => k (Src.str ht.h hs)⟩
instance {sz sz' m k : Nat} {xt e e' : TypeId} {a : Option Addr} {xs : List Value} [ht : Und P xt (.slice e)] [hm : SlMem L (.slice a m k) e' sz' m xs] : SrcA P L sz xt (.slice a m k) m xs (sz = sz') := ⟨fun hs _ _ _ _ _ kk => by subst hs; exact srcOfSl' hm.h fun hl => kk (srcOfSl ht.h hm.h hl)⟩
instance (priority := 900) {sz m k b o : Nat} {xt e e' : TypeId} {xs : List Value} [ht : Und P xt (.slice e)] [hm : RowAt L b e' xs] : SrcA P L sz xt (.slice (some ⟨b, o, none⟩) m k) m ((xs.drop o).take m) (sz = 1 ∧ o + m ≤ xs.length) := ⟨fun hs _ _ _ _ _ kk => by
  refine kk (Src.sl ht.h (by rw [List.length_take, List.length_drop, hs.1]; omega) hm.h (ReadsN.row fun i v hv => ?_))
  have hi := getS_lt hv
  rw [List.length_take, List.length_drop] at hi
  rw [List.getElem?_take, if_pos (by omega), List.getElem?_drop] at hv
  exact hv⟩
theorem N.cpR {d : Option Tmp} {ty : TypeId} {pos : String} {af : Array Edge} {g : Option (Nat × Bool)} {x y : Operand} {b o n cap m sz : Nat} {t xt e e' : TypeId} {xv : Value} {cs news : List Value} (hx : E.eval x = .slice (some ⟨b, o, none⟩) n cap) (hy : E.eval y = xv) (ht : P.underlying t = some (.slice e)) (hsz : P.cellsOf e = sz + 1)
    (hs : Src P c L (sz + 1) xt xv m news) (h1 : ∀ u ∈ news.take (min m n * (sz + 1)), u.oneCell' = true) (hd : Del (row e' b cs) L R) (ho : o + min m n * (sz + 1) ≤ cs.length) :
    N P r c L E ⟨d, .call ⟨.builtin .copy, #[x, y], #[t, xt]⟩, ty, pos, af, g⟩ (fun v L'' => v = .int .i64 ((min m n : Nat) : Int) ∧ L'' = row e' b (setAll cs o (news.take (min m n * (sz + 1)))) :: R) := by
  refine N.value (fun _ => by simp) fun w hw => ?_
  obtain ⟨w', k1, k2⟩ := SL.storeCells (P := P) (news.take (min m n * (sz + 1))) cs o 0 w R (hw.perm hd.perm) h1 (by rw [List.length_take]; omega)
  refine ⟨.int .i64 ((min m n : Nat) : Int), _, w', ?_, ⟨rfl, rfl⟩, by simpa using k2⟩
  have hmn : Nat.min m n = min m n := rfl
  have hrun : (execOp E.eval ⟨d, .call ⟨.builtin .copy, #[x, y], #[t, xt]⟩, ty, pos, af, g⟩).run P w = ((Builtin.copy_ #[t, xt] ty #[.slice (some ⟨b, o, none⟩) n cap, xv]).run P w).andThen (fun a w' => Result.ok (Next.value a) w') := by
    simp [execOp, resolve, invoke, builtin, hx, hy]
  rw [hrun]
  simp only [Builtin.copy_, List.getElem?_toArray, List.getElem?_cons_zero, List.getElem?_cons_succ]
  simp only [Sem.run_bind, Sem.run_pure, Result.andThen_ok, run_underlying ht, hs.len, run_sizeOf hsz, hmn, hs.first w hw _ (Nat.min_le_left m n)]
  rw [k1]
  simp [goInt]
/-- Elements written over others. -/
def putL {α : Type} (l : List α) (o : Nat) (xs : List α) : List α := l.take o ++ xs ++ l.drop (o + xs.length)
theorem putL_len {α : Type} {l : List α} {o : Nat} {xs : List α} (h : o + xs.length ≤ l.length) : (putL l o xs).length = l.length := by
  simp [putL]; omega
class SetA (cs : List Value) (o : Nat) (news : List Value) (cs' : outParam (List Value)) (C : outParam Prop) : Prop where h : C → setAll cs o news = cs' ∧ (∀ u ∈ news, u.oneCell' = true) ∧ o + news.length ≤ cs.length
instance {l xs : List UInt8} {o : Nat} : SetA (l.map byteV) o (xs.map byteV) ((putL l o xs).map byteV) (o + xs.length ≤ l.length) := ⟨fun h => ⟨by rw [setAll_eq _ _ _ (by simpa using h)]; simp [putL, List.map_take, List.map_drop], fun u hu => (by obtain ⟨x, _, rfl⟩ := List.mem_map.1 hu; rfl), by simpa using h⟩⟩
instance {l xs : List UInt8} {o p m : Nat} : SetA (l.map byteV) o (((xs.map byteV).drop p).take m) ((putL l o ((xs.drop p).take m)).map byteV) (o + ((xs.drop p).take m).length ≤ l.length) := ⟨fun h => ⟨by rw [← List.map_drop, ← List.map_take, setAll_eq _ _ _ (by simpa using h)]; simp [putL, List.map_take, List.map_drop], fun u hu => (by rw [← List.map_drop, ← List.map_take] at hu; obtain ⟨x, _, rfl⟩ := List.mem_map.1 hu; rfl), by simpa using h⟩⟩
instance (priority := 1100) {t xt e e' : TypeId} {b o n k m : Nat} {xv : Value} {cs cs' news : List Value} {C D : Prop} [ht : Und P t (.slice e)] [hz : Sz P e 0] [hr : RowDel L b e' cs R] [hs : SrcA P L 1 xt xv m news C] [hp : SetA cs o news cs' D] :
    St P c L (.builtin .copy [.slice (some ⟨b, o, none⟩) n k, xv] [t, xt]) (fun q => Vc (m ≤ n ∧ news.length = m ∧ C ∧ D) (q (.int .i64 (m : Nat)) (row e' b cs' :: R))) :=
  ⟨fun r E d op ty pos af g hh q hq => by
    cases hh with | builtin ev =>
    rename_i xs_
    obtain ⟨⟨h1, h2, h3, h4⟩, hq⟩ := hq
    match xs_, ev with
    | [x, y], ⟨e1, e3, _⟩ =>
      refine hs.h h3 fun hsrc => ?_
      obtain ⟨g1, g2, g3⟩ := hp.h h4
      have hmin : min m n = m := by omega
      have ht1 : news.take (min m n * (0 + 1)) = news := by rw [hmin]; exact List.take_of_length_le (by omega)
      exact (N.cpR e1 e3 ht.h hz.h hsrc (by rw [ht1]; exact g2) hr.h (by rw [hmin]; omega)).imp fun v L2 h5 => by
        rw [h5.1, h5.2, ht1, g1, hmin]; exact hq⟩
instance {α : Type} {n : Nat} {a : α} : Len (List.replicate n a) n := ⟨by simp⟩
instance {n : Nat} {v : Value} [h : One v] : OnesL (List.replicate n v) := ⟨fun u hu => by rw [(List.mem_replicate.1 hu).2]; exact h.h⟩
/-! 32 bits -/
class Lt32 (x : Nat) : Prop where h : x < 4294967296
instance {x : Nat} : Lt32 (x % 4294967296) := ⟨Nat.mod_lt _ (by decide)⟩
instance {x y : Nat} [h1 : Lt32 x] [h2 : Lt32 y] : Lt32 (x ^^^ y) := ⟨Nat.xor_lt_two_pow (n := 32) h1.h h2.h⟩
class B32 (l : List Nat) : Prop where h : ∀ j, gt l j < 4294967296
instance {l : List Nat} {j : Nat} [h : B32 l] : Lt32 (gt l j) := ⟨h.h j⟩
instance {l : List Nat} {j x : Nat} [h : B32 l] [hx : Lt32 x] : B32 (l.set j x) := ⟨fun i => by
  have h1 := h.h i
  unfold gt at *
  rw [List.getD_eq_getElem?_getD] at *
  rw [List.getElem?_set]
  split
  · split
    · exact hx.h
    · decide
  · exact h1⟩
class Ln {α : Type} (l : List α) (n : outParam Nat) : Prop where h : l.length = n
instance {α : Type} {l : List α} {j n : Nat} {x : α} [h : Ln l n] : Ln (l.set j x) n := ⟨by rw [List.length_set]; exact h.h⟩
theorem lt_ln {α : Type} {l : List α} {i n : Nat} [h : Ln l n] (hi : i < n) : i < l.length := by rw [h.h]; exact hi
instance {n : Nat} : Inv vU32 (.int .u32 ((n : Nat) : Int)) n True := ⟨fun _ => rfl⟩
instance {n : Nat} : Inv vU64 (.int .u64 ((n : Nat) : Int)) n True := ⟨fun _ => rfl⟩
/-! Literal bytes -/
class BL (us : List Value) (m : outParam (List UInt8)) (C : outParam Prop) : Prop where h : C → us = m.map byteV
instance : BL [] [] True := ⟨fun _ => rfl⟩
instance {x : Int} {k : Nat} {us : List Value} {m : List UInt8} {C : Prop} [hx : Nn x k] [h : BL us m C] : BL (.int .u8 x :: us) (UInt8.ofNat k :: m) (k < 256 ∧ C) := ⟨fun hc => by
  rw [h.h hc.2, hx.h]
  simp [byteV, Nat.mod_eq_of_lt hc.1]⟩
instance (priority := 600) {us : List Value} {l m : List UInt8} {C : Prop} [h : BL us m C] : AppV us (l.map byteV) ((m ++ l).map byteV) C := ⟨fun hc => by rw [h.h hc]; simp⟩
/-- Bytes to bytes. -/
theorem N.cvs {d : Option Tmp} {ty : TypeId} {pos : String} {af : Array Edge} {g : Option (Nat × Bool)} {x : Operand} {a : Option Addr} {n k : Nat} {t e e' : TypeId} {xs : List Value} (hx : E.eval x = .slice a n k) (ht : P.underlying t = some (.slice e)) (he : P.underlying e = some (.int .u8)) (hd : Del (sl e' 1 (.slice a n k) n xs) L R) (hn : 0 < n) :
    N P r c L E ⟨d, .convert t t x, ty, pos, af, g⟩ (fun v L' => v = .slice a n k ∧ L' = sl e' 1 (.slice a n k) n xs :: R) := by
  unfold N
  intro w hw K Q hK
  obtain ⟨e1, e2, e3, f1, f2, hdj, hf1, hf2, hsl, hl⟩ := hw.perm hd.perm
  rcases hsl with ⟨hv, h0, hxs⟩ | ⟨b, j, rest, hv, hxl, hrl, hrow⟩
  · omega
  · have hw' : SL c (row e' b (xs ++ rest) :: R) w := ⟨e1, e2, e3, f1, f2, hdj, hf1, hf2, hrow, hl⟩
    rw [hv] at hx
    have h1 := N.cvb (P := P) (r := r) (c := c) (d := d) (ty := ty) (pos := pos) (af := af) (g := g) (e' := e') (cs := xs ++ rest) hx ht he (Del.head _ R)
    unfold N at h1
    refine h1 w hw' K Q fun v L' w' hq hw2 => ?_
    refine hK v _ w' ⟨by rw [hq.1, hv], rfl⟩ ?_
    rw [hq.2] at hw2
    rw [hv]
    exact Ent.sl hxl hrl w' hw2
instance {t e e' : TypeId} {a : Option Addr} {n k : Nat} {xs : List Value} [ht : Und P t (.slice e)] [he : Und P e (.int .u8)] [hd : SlAt L (.slice a n k) e' 1 n xs R] : St P c L (.conv t t (.slice a n k)) (fun q => Vc (0 < n) (q (.slice a n k) (sl e' 1 (.slice a n k) n xs :: R))) :=
  ⟨fun r E d op ty pos af g hs q hq => by
    cases hs with | conv e1 =>
    exact (N.cvs e1 ht.h he.h hd.h hq.l).imp fun v L' h => by rw [h.1, h.2]; exact hq.r⟩
end
end Pw
