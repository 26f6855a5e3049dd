/- Lemmas for the proofs of this seat: no statement of the seat is claimed here. -/
import Derived.Test.YtfgpnipnaaeafaaKy
set_option linter.all false

namespace Go.Proofs.Ytfgpnipnaaeafaa
open Go Pw
set_option maxRecDepth 20000
set_option maxHeartbeats 4000000
theorem numE_put {bs : List UInt8} {a n x : Nat} (hx : x < 256 ^ n) (hn : a + n ≤ bs.length) (h : ∀ i, i < n → bs[a + i]? = (leB x n)[i]?) : (numE bs a n).1 = x := by
  rw [numE_eq (cs := leB x n) (b := 0) hn (by rw [leB_len]; omega) (fun i hi => by rw [Nat.zero_add]; exact h i hi)]
  exact numE_leB hx
/-- Where a ring, and a request, lie; what of it is lent. -/
structure DGeo (A n a N : Nat) (LT : List Bool) : Prop where
  n0 : 0 < n
  n2 : n ≤ 256
  Aa : A + partN n + 6 + 8 * n ≤ a
  aN : a + 1041 ≤ N
  N2 : N ≤ 1048576
  lt : LT.length = N
  us : ∀ k, A + partN n ≤ k → k < A + partN n + 6 + 8 * n → LT[k]? = some true
  bf : ∀ k, a + 16 ≤ k → k < a + 1041 → LT[k]? = some true
def sv1 (bs dt : List UInt8) (a : Nat) : List UInt8 := putB bs (a + 16) dt
def sv2 (bs dt : List UInt8) (a st : Nat) : List UInt8 := putB (sv1 bs dt a) (a + 1040) [UInt8.ofNat st]
def sv3 (bs dt : List UInt8) (A n a h k st : Nat) : List UInt8 := putB (sv2 bs dt a st) (A + partN n + 4 + 8 * (k % n)) (leB h 4 ++ leB 1025 4)
/-- The memory behind an answer of the device. -/
def svB (bs dt : List UInt8) (A n a h k st : Nat) : List UInt8 := putB (sv3 bs dt A n a h k st) (A + partN n + 2) (leB ((k + 1) % 65536) 2)
section
variable {A n a N : Nat} {LT : List Bool} {bs dt : List UInt8} {k h st : Nat}
theorem sv1_len (g : DGeo A n a N LT) (hb : bs.length = N) (hd : dt.length = 1024) : (sv1 bs dt a).length = N := by
  have := g.aN
  unfold sv1; rw [putB_len (by omega), hb]
theorem sv2_len (g : DGeo A n a N LT) (hb : bs.length = N) (hd : dt.length = 1024) : (sv2 bs dt a st).length = N := by
  have := g.aN
  have h1 := sv1_len g hb hd
  unfold sv2; rw [putB_len (by simp only [List.length_cons, List.length_nil]; omega), h1]
theorem sv3_len (g : DGeo A n a N LT) (hb : bs.length = N) (hd : dt.length = 1024) : (sv3 bs dt A n a h k st).length = N := by
  have := g.aN
  have := g.Aa
  have h1 := sv2_len (st := st) g hb hd
  have hk := Nat.mod_lt k g.n0
  unfold sv3; rw [putB_len (by rw [List.length_append, leB_len, leB_len]; omega), h1]
theorem svB_len (g : DGeo A n a N LT) (hb : bs.length = N) (hd : dt.length = 1024) : (svB bs dt A n a h k st).length = N := by
  have := g.aN
  have := g.Aa
  have h1 := sv3_len (h := h) (k := k) (st := st) g hb hd
  unfold svB; rw [putB_len (by rw [leB_len]; omega), h1]
theorem sv_w1 (g : DGeo A n a N LT) (hb : bs.length = N) (hd : dt.length = 1024) : writeE bs LT (a + 16) dt true 12 = (0, sv1 bs dt a) := by
  have := g.aN
  exact writeE_ok (by omega) ((allB_iff (by rw [g.lt]; omega)).2 fun j h2 h3 => g.bf j (by omega) (by omega))
theorem sv_w2 (g : DGeo A n a N LT) (hb : bs.length = N) (hd : dt.length = 1024) : writeE (sv1 bs dt a) LT (a + 1040) [UInt8.ofNat st] true 12 = (0, sv2 bs dt a st) := by
  have := g.aN
  have h1 := sv1_len g hb hd
  exact writeE_ok (by simp only [List.length_cons, List.length_nil]; omega) ((allB_iff (by simp only [List.length_cons, List.length_nil]; rw [g.lt]; omega)).2 fun j h2 h3 => g.bf j (by omega) (by simp only [List.length_cons, List.length_nil] at h3; omega))
theorem sv_w3 (g : DGeo A n a N LT) (hb : bs.length = N) (hd : dt.length = 1024) : writeE (sv2 bs dt a st) LT (A + partN n + 4 + 8 * (k % n)) (leB h 4 ++ leB 1025 4) true 12 = (0, sv3 bs dt A n a h k st) := by
  have := g.aN
  have := g.Aa
  have h1 := sv2_len (st := st) g hb hd
  have hk := Nat.mod_lt k g.n0
  have h8 : (leB h 4 ++ leB 1025 4).length = 8 := by rw [List.length_append, leB_len, leB_len]
  exact writeE_ok (by omega) ((allB_iff (by rw [g.lt]; omega)).2 fun j h2 h3 => g.us j (by omega) (by omega))
theorem sv_w4 (g : DGeo A n a N LT) (hb : bs.length = N) (hd : dt.length = 1024) : writeE (sv3 bs dt A n a h k st) LT (A + partN n + 2) (leB ((k + 1) % 65536) 2) true 12 = (0, svB bs dt A n a h k st) := by
  have := g.aN
  have := g.Aa
  have h1 := sv3_len (h := h) (k := k) (st := st) g hb hd
  have h8 := leB_len ((k + 1) % 65536) 2
  have hn := g.n0
  exact writeE_ok (by omega) ((allB_iff (by rw [g.lt]; omega)).2 fun j h2 h3 => g.us j (by omega) (by omega))
theorem sv_get (g : DGeo A n a N LT) (hb : bs.length = N) (hd : dt.length = 1024) (j : Nat) : (svB bs dt A n a h k st)[j]? = if A + partN n + 2 ≤ j ∧ j < A + partN n + 4 then (leB ((k + 1) % 65536) 2)[j - (A + partN n + 2)]? else if slotE A n k ≤ j ∧ j < slotE A n k + 8 then (leB h 4 ++ leB 1025 4)[j - slotE A n k]? else if a + 1040 ≤ j ∧ j < a + 1041 then [UInt8.ofNat st][j - (a + 1040)]? else if a + 16 ≤ j ∧ j < a + 1040 then dt[j - (a + 16)]? else bs[j]? := by
  have := g.aN
  have := g.Aa
  have hk := Nat.mod_lt k g.n0
  have l3 := sv3_len (h := h) (k := k) (st := st) g hb hd
  have l2 := sv2_len (st := st) g hb hd
  have l1 := sv1_len g hb hd
  have h8 : (leB h 4 ++ leB 1025 4).length = 8 := by rw [List.length_append, leB_len, leB_len]
  have h2 := leB_len ((k + 1) % 65536) 2
  unfold svB
  rw [putB_get (by omega), h2]
  unfold sv3
  rw [putB_get (by omega), h8]
  unfold sv2
  rw [putB_get (by simp only [List.length_cons, List.length_nil]; omega)]
  unfold sv1
  rw [putB_get (by omega), hd]
  rfl
theorem sv_ix (g : DGeo A n a N LT) (hb : bs.length = N) (hd : dt.length = 1024) : ixE (svB bs dt A n a h k st) A n = (k + 1) % 65536 := by
  have := g.aN
  have := g.Aa
  have hn := g.n0
  have hl := svB_len (h := h) (k := k) (st := st) g hb hd
  unfold ixE
  refine numE_put (by show _ < 65536; omega) (by omega) fun i hi => ?_
  rw [sv_get g hb hd, if_pos (by omega), Nat.add_sub_cancel_left]
theorem sv_hd (g : DGeo A n a N LT) (hb : bs.length = N) (hd : dt.length = 1024) (hh : h < 65536) : (numE (svB bs dt A n a h k st) (slotE A n k) 4).1 = h := by
  have := g.aN
  have := g.Aa
  have hk := Nat.mod_lt k g.n0
  have hl := svB_len (h := h) (k := k) (st := st) g hb hd
  refine numE_put (by show _ < 4294967296; omega) (by unfold slotE; omega) fun i hi => ?_
  rw [sv_get g hb hd, if_neg (by unfold slotE; omega), if_pos (by omega), Nat.add_sub_cancel_left, List.getElem?_append_left (by rw [leB_len]; omega)]
theorem sv_sz (g : DGeo A n a N LT) (hb : bs.length = N) (hd : dt.length = 1024) : (numE (svB bs dt A n a h k st) (slotE A n k + 4) 4).1 = 1025 := by
  have := g.aN
  have := g.Aa
  have hk := Nat.mod_lt k g.n0
  have hl := svB_len (h := h) (k := k) (st := st) g hb hd
  refine numE_put (by decide) (by unfold slotE; omega) fun i hi => ?_
  rw [sv_get g hb hd, if_neg (by unfold slotE; omega), if_pos (by omega), show slotE A n k + 4 + i - slotE A n k = 4 + i by omega, List.getElem?_append_right (by rw [leB_len]; omega), leB_len, Nat.add_sub_cancel_left]
theorem sv_ans (g : DGeo A n a N LT) (hb : bs.length = N) (hd : dt.length = 1024) : ansE (svB bs dt A n a h k 0) a 1025 = some dt := by
  have := g.aN
  have := g.Aa
  have hk := Nat.mod_lt k g.n0
  have hl := svB_len (h := h) (k := k) (st := 0) g hb hd
  unfold ansE
  have h1 : (svB bs dt A n a h k 0)[a + 1040]? = some 0 := by
    rw [sv_get g hb hd, if_neg (by omega), if_neg (by unfold slotE; omega), if_pos (by omega), Nat.sub_self]; rfl
  rw [if_pos ⟨rfl, h1⟩]
  congr 1
  apply List.ext_getElem?
  intro i
  rw [List.getElem?_take]
  by_cases hi : i < 1024
  · rw [if_pos hi, List.getElem?_drop, sv_get g hb hd, if_neg (by omega), if_neg (by unfold slotE; omega), if_neg (by omega), if_pos (by omega), Nat.add_sub_cancel_left]
  · rw [if_neg hi, List.getElem?_eq_none (by omega)]
end
end Go.Proofs.Ytfgpnipnaaeafaa


namespace Go.Proofs.Ytfgpnipnaaeafaa
open Go Pw
set_option maxRecDepth 20000
set_option maxHeartbeats 4000000
set_option synthInstance.maxHeartbeats 400000
set_option synthInstance.maxSize 4000
set_option maxHeartbeats 8000000
attribute [local irreducible] writeE turnE partN sizeE
theorem dnew_spec (p A n S bl : Nat) (bs : List UInt8) (lt : List Bool) (h0 : 0 < sizeE (n : Nat)) (hA : A % 16 = 0) (hA2 : A ≤ 1048576) (hn : n ≤ 256) (hpn : partN n ≤ sizeE (n : Nat)) (hw : (writeE bs lt A (List.replicate (sizeE (n : Nat)) 0) false 11).1 = 0) (hl : (turnE lt (A + partN n) (sizeE (n : Nat) - partN n) true 11).1 = 0) (hS : 1 ≤ S) (hS2 : S ≤ 32) (hbl : 1 ≤ bl) (hbl2 : bl ≤ 65536) (hN : A + rndN (sizeE (n : Nat)) + 1041 * S ≤ bs.length) (hN2 : bs.length ≤ 1048576) :
    Sat Try.prog 11 [.pointer (some ⟨p, 0, none⟩), .int .u32 (A : Nat), .agg #[.int .i64 (n : Nat), .int .i64 (S : Nat), .int .u32 (bl : Nat)]] [memA p bs lt] (fun u L' => ∃ d r q m, u = .tuple #[.pointer (some ⟨d, 0, none⟩), .int .i64 0] ∧ L' = [row 79 d [.pointer (some ⟨p, 0, none⟩), .pointer (some ⟨r, 0, none⟩), .pointer (some ⟨q, 0, none⟩), .int .u32 (bl : Nat), .map (some m), .int .u32 1, .bool false], rgA r p A [] (List.replicate n false) 0 0 false, memA p (writeE bs lt A (List.replicate (sizeE (n : Nat)) 0) false 11).2 (turnE lt (A + partN n) (sizeE (n : Nat) - partN n) true 11).2, poolV q p (A + rndN (sizeE (n : Nat))) 1041 (List.replicate S 0), mapJ askV m (.u16, [])]) := by
  have hs1 := sizeE_le (n : Nat)
  have hr1 := rnd_eq (sizeE (n : Nat))
  have hd1 : dszN n S = rndN (sizeE (n : Nat)) + S * 1041 := rfl
  have hwl : (writeE bs lt A (List.replicate (sizeE (n : Nat)) 0) false 11).2.length = bs.length := writeE_len _ _ _ _ _ _
  all_goals
    refine Sat.enter Try.func11 rfl Try.ntmps11 rfl (fun c R => ?_)
    try simp only [List.cons_append, List.nil_append]
    repeat' (first
      | (refine Vc.mk ⟨h0, hA, hA2, hn, hs1, hpn, hw, hl⟩ ?_)
      | (refine finAt ?_; rename_i cc rr qq mm; refine Fini.of ⟨b, rr, qq, mm, rfl, rfl⟩ ?_; exact (by simp only [List.cons_append, List.nil_append]; repeat first | (apply Imp.pull; focus ((repeat first | with_reducible exact Del.head _ _ | with_reducible apply Del.tail); done)) | with_reducible exact Imp.refl _ | apply Imp.drop))
      | refine T.pk 8 [4, 5, 10] (.p 0 (.p 1 (.d 2 (.g 3 (.p 8 (.g 9 (.n 4 (.n 5 (.p 6 (.p 7 (.n 10 (.p 11 (.p 12 (.p 13 (.p 14 (.p 15 .fin)))))))))))))))) ?_
      | refine And.intro (fun hc => ?_) (fun hc => ?_)
      | refine And.intro ?_ ?_
      | intro b
      | ((first | refine atDS ?_ | refine atDSK ?_ | refine atDN ?_); refine stk ?_)
      | refine stp ?_
      | refine TQ.finC ?_
      | refine TQ.finC2 ?_
      | refine TQ.finC3 ?_
      | refine ⟨fun hc => ?_, fun hc => ?_⟩
      | refine Ei.f ?_
      | refine ⟨?_, ?_⟩
      | intro b
      | exact absurd rfl hc
      | exact absurd hc (by decide)
      | omega
      | (dsimp only; omega)
      | fail)
theorem read_arg (d p r q m bl b : Nat) (nx : Int) (h : bl ≤ b) (hb : b < 4294967296) :
    Sat Try.prog 15 [.pointer (some ⟨d, 0, none⟩), .int .u32 (b : Nat)] [row 79 d [.pointer (some ⟨p, 0, none⟩), .pointer (some ⟨r, 0, none⟩), .pointer (some ⟨q, 0, none⟩), .int .u32 (bl : Nat), .map (some m), .int .u32 nx, .bool false]] (fun u L' => u = .tuple #[.int .u32 0, .int .i64 2] ∧ L' = [row 79 d [.pointer (some ⟨p, 0, none⟩), .pointer (some ⟨r, 0, none⟩), .pointer (some ⟨q, 0, none⟩), .int .u32 (bl : Nat), .map (some m), .int .u32 nx, .bool false]]) := by
  all_goals
    refine Sat.enter Try.func15 rfl Try.ntmps15 rfl (fun c R => ?_)
    try simp only [List.cons_append, List.nil_append]
    repeat' (first
      | (exact Fini.of ⟨rfl, rfl⟩ (by repeat first | exact Imp.refl _ | (apply Imp.pull; focus ((repeat first | exact Del.head _ _ | apply Del.tail); done)) | apply Imp.drop))
      | refine T.pl 21 [12] (.p 0 (.p 1 (.p 4 (.p 5 (.p 6 (.p 9 (.p 10 (.d 2 (.d 3 (.d 7 (.d 8 (.p 11 (.n 12 .fin))))))))))))) ?_
      | refine And.intro (fun hc => ?_) (fun hc => ?_)
      | refine And.intro ?_ ?_
      | intro b
      | refine stp ?_
      | refine TQ.finC ?_
      | refine TQ.finC2 ?_
      | refine TQ.finC3 ?_
      | refine ⟨fun hc => ?_, fun hc => ?_⟩
      | refine Ei.f ?_
      | refine ⟨?_, ?_⟩
      | intro b
      | exact absurd rfl hc
      | exact absurd hc (by decide)
      | omega
      | (dsimp only; omega)
      | fail)

end Go.Proofs.Ytfgpnipnaaeafaa

