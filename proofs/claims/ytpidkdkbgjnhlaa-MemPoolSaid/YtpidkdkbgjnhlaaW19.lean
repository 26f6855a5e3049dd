/- Lemmas for the proofs of this seat: no statement of the seat is claimed here. -/
import Derived.Test.YtpidkdkbgjnhlaaW18
set_option linter.all false
namespace Go.Proofs.Ytpidkdkbgjnhlaa
open Go Pw
set_option maxRecDepth 20000
set_option maxHeartbeats 4000000
theorem cnt_add (p : Nat → Prop) [DecidablePred p] (a l : Nat) : ∀ m, cnt p a (l + m) = cnt p a l + cnt p (a + l) m
  | 0 => rfl
  | m + 1 => by
    have h := cnt_add p a l m
    rw [show l + (m + 1) = (l + m) + 1 by omega]
    simp only [cnt, h, Nat.add_assoc]
theorem cnt_full (p : Nat → Prop) [DecidablePred p] (a l : Nat) (h : ∀ k, a ≤ k → k < a + l → p k) : cnt p a l = l :=
  Nat.le_antisymm (cnt_le p a l) ((cnt_all p a l).2 h)
def lens (ss : List Spn) : Nat := (ss.map (·.2)).sum
theorem lens_succ {ss : List Spn} {i : Nat} {s : Spn} (h : ss[i]? = some s) : lens (ss.take (i + 1)) = lens (ss.take i) + s.2 := by
  unfold lens; rw [List.take_add_one, h]; simp
theorem lens_shared {n : Nat} : ∀ {lo : Nat} {ss : List Spn}, Canon lo n ss → sharedN ss 0 n = lens ss
  | _, [], _ => rfl
  | lo, x :: t, ⟨h1, h2, h3, h4⟩ => by
    have ih := lens_shared h4
    unfold sharedN lens at *
    simp only [List.map_cons, List.sum_cons, ih, ovl]; omega
theorem lens_le {n : Nat} {ss : List Spn} (h : Canon 0 n ss) : lens ss ≤ n := by
  rw [← lens_shared h, shared_cnt h]; exact cnt_le _ _ _
theorem lens_take_le (ss : List Spn) (i : Nat) : lens (ss.take i) ≤ lens ss := by
  have : lens ss = lens (ss.take i) + lens (ss.drop i) := by
    unfold lens
    conv => lhs; rw [← List.take_append_drop i ss]
    rw [List.map_append, List.sum_append]
  omega
structure PoI (n sz : Nat) (wh : List UInt8) (lt : List Bool) : Prop where
  wl : wh.length = n
  ll : lt.length = sz * n + 3
  lo : ∀ k, k < 3 → lt[k]? = some false
  at_ : ∀ j r, j < n → r < sz → lt[3 + j * sz + r]? = some (decide (wh[j]? = some 2))
theorem PoI.init (n sz : Nat) : PoI n sz (List.replicate n 0) (List.replicate (sz * n + 3) false) := by
  refine ⟨by simp, by simp, fun k hk => by rw [List.getElem?_replicate, if_pos (by omega)], fun j r hj hr => ?_⟩
  have h1 := Nat.mul_le_mul_right sz (Nat.succ_le_of_lt hj)
  rw [Nat.succ_mul, Nat.mul_comm n sz] at h1
  rw [List.getElem?_replicate, if_pos (by omega), List.getElem?_replicate, if_pos hj]; rfl
theorem PoI.in_ {n sz : Nat} {wh : List UInt8} {lt : List Bool} (h : PoI n sz wh lt) {k : Nat} (hk : k < n) : 3 + k * sz + sz ≤ lt.length := by
  have h1 := Nat.mul_le_mul_right sz (Nat.succ_le_of_lt hk)
  rw [Nat.succ_mul, Nat.mul_comm n sz] at h1
  have := h.ll; omega
theorem PoI.all {n sz : Nat} {wh : List UInt8} {lt : List Bool} (h : PoI n sz wh lt) {k : Nat} (hk : k < n) {b : Bool} (hb : decide (wh[k]? = some 2) = b) : allB lt (3 + k * sz) sz b = true := by
  rw [allB_iff (h.in_ hk)]
  intro j h1 h2
  have := h.at_ k (j - (3 + k * sz)) hk (by omega)
  rw [show 3 + k * sz + (j - (3 + k * sz)) = j by omega, hb] at this
  exact this
theorem PoI.same {n sz : Nat} {wh : List UInt8} {lt : List Bool} (h : PoI n sz wh lt) {k : Nat} {x : UInt8} (hx : x ≠ 2) (hk : wh[k]? ≠ some 2) : PoI n sz (wh.set k x) lt := by
  refine ⟨by rw [List.length_set]; exact h.wl, h.ll, h.lo, fun j r hj hr => ?_⟩
  rw [h.at_ j r hj hr]
  congr 1
  rw [List.getElem?_set]
  by_cases hjk : k = j
  · subst hjk
    rw [if_pos rfl, if_pos (by rw [h.wl]; exact hj)]
    simp [hk, hx]
  · rw [if_neg hjk]
theorem PoI.fill {n sz : Nat} {wh : List UInt8} {lt : List Bool} (h : PoI n sz wh lt) {k : Nat} (hk : k < n) (x : UInt8) (b : Bool) (hb : decide (x = 2) = b) : PoI n sz (wh.set k x) (fillB lt (3 + k * sz) sz b) := by
  have hin := h.in_ hk
  refine ⟨by rw [List.length_set]; exact h.wl, by rw [fillB_len hin]; exact h.ll, fun j hj => ?_, fun j r hj hr => ?_⟩
  · rw [fillB_get hin j (by omega), if_neg (by omega)]; exact h.lo j hj
  · have hin2 := h.in_ hj
    rw [fillB_get hin _ (by omega), List.getElem?_set]
    by_cases hjk : k = j
    · subst hjk
      rw [if_pos ⟨by omega, by omega⟩, if_pos rfl, if_pos (by rw [h.wl]; exact hj), ← hb]
      simp
    · rw [if_neg hjk, ← h.at_ j r hj hr]
      rw [if_neg]
      rintro ⟨h1, h2⟩
      rcases Nat.lt_or_ge k j with h3 | h3
      · have h4 := Nat.mul_le_mul_right sz (Nat.succ_le_of_lt h3)
        rw [Nat.succ_mul] at h4; omega
      · have h4 := Nat.mul_le_mul_right sz (show j + 1 ≤ k by omega)
        rw [Nat.succ_mul] at h4; omega
theorem PoI.cnt_eq {n sz : Nat} {wh : List UInt8} {ss : List Spn} (h : PoI n sz wh (flags (sz * n + 3) ss)) : ∀ m, m ≤ n → cnt (inS ss) 0 (3 + m * sz) = sz * (wh.take m).count 2
  | 0, _ => by
    rw [Nat.zero_mul, Nat.add_zero, List.take_zero, List.count_nil, Nat.mul_zero, cnt_none]
    intro k _ hk hs
    have h1 := h.lo k (by omega)
    rw [flags_get (by omega)] at h1
    simp [hs] at h1
  | m + 1, hm => by
    have ih := h.cnt_eq m (by omega)
    have hin : m < n := by omega
    have hl : 3 + m * sz + sz ≤ sz * n + 3 := by
      have h1 := h.in_ hin
      rw [flags_len] at h1
      exact h1
    obtain ⟨x, hx⟩ := get_some (l := wh) (i := m) (by rw [h.wl]; exact hin)
    rw [show 3 + (m + 1) * sz = (3 + m * sz) + sz by rw [Nat.succ_mul]; omega, cnt_add, ih, Nat.zero_add, List.take_add_one, hx, List.count_append, Nat.mul_add]
    congr 1
    have key : ∀ k, 3 + m * sz ≤ k → k < 3 + m * sz + sz → (inS ss k ↔ x = 2) := fun k h1 h2 => by
      have h3 := h.at_ m (k - (3 + m * sz)) hin (by omega)
      rw [show 3 + m * sz + (k - (3 + m * sz)) = k by omega, flags_get (by omega), hx] at h3
      simp at h3; exact h3
    by_cases hx2 : x = 2
    · subst hx2
      rw [cnt_full _ _ _ fun k h1 h2 => (key k h1 h2).2 rfl]
      simp
    · rw [(cnt_none _ _ _).2 fun k h1 h2 hh => hx2 ((key k h1 h2).1 hh)]
      simp [hx2]
theorem PoI.lens {n sz : Nat} {wh : List UInt8} {ss : List Spn} (h : PoI n sz wh (flags (sz * n + 3) ss)) (hc : Canon 0 (sz * n + 3) ss) : lens ss = wh.count 2 * sz := by
  rw [← lens_shared hc, shared_cnt hc]
  have := h.cnt_eq n (Nat.le_refl _)
  rw [show 3 + n * sz = sz * n + 3 by rw [Nat.mul_comm]; omega, ← h.wl, List.take_length] at this
  rw [← h.wl] at *
  rw [this, Nat.mul_comm]
theorem getE_cases (at0 sz : Nat) (wh : List UInt8) : (getE at0 sz wh = ((0, 6), wh) ∧ 0 ∉ wh) ∨ ∃ k, getE at0 sz wh = ((at0 + k * sz, 0), wh.set k 1) ∧ wh[k]? = some 0 := by
  unfold getE
  cases h : wh.findIdx? (· == 0) with
  | none => exact .inl ⟨rfl, findIdx_none h⟩
  | some k => exact .inr ⟨k, rfl, (findIdx_some h).1⟩
theorem put_at (q p sz n k NN : Nat) (wh : List UInt8) (hz : 0 < sz) (hw : wh.length = n) (hk : k < n) (hb : 3 + k * sz < 4294967296) : Sat Try.prog 22 [.pointer (some ⟨q, 0, none⟩), .int .u32 (3 + k * sz : Nat)] [poolA q p 3 sz wh NN] (fun u L' => u = .int .i64 ((if wAt wh k = 1 then 0 else 3 : Nat) : Int) ∧ L' = [poolA q p 3 sz (if wAt wh k = 1 then wh.set k 0 else wh) NN]) := by
  have := pputA q p 3 sz NN (3 + k * sz) wh hb
  have he : pputE 3 sz wh (3 + k * sz) = if wAt wh k = 1 then (0, wh.set k 0) else (3, wh) := by unfold pputE; rw [findK_at hz (by omega)]
  rw [he] at this
  by_cases h : wAt wh k = 1
  · rw [if_pos h] at this; rw [if_pos h, if_pos h]; exact this
  · rw [if_neg h] at this; rw [if_neg h, if_neg h]; exact this
theorem give_at (q p sz n k NN : Nat) (wh : List UInt8) (bs : List UInt8) (lt : List Bool) (hN : bs.length = NN) (hz : 0 < sz) (hP : PoI n sz wh lt) (hk : k < n) (hb : 3 + k * sz < 4294967296) : Sat Try.prog 23 [.pointer (some ⟨q, 0, none⟩), .int .u32 (3 + k * sz : Nat)] [poolA q p 3 sz wh NN, memA p bs lt] (fun u L' => u = .int .i64 ((if wAt wh k = 1 then 0 else 3 : Nat) : Int) ∧ L' = [poolA q p 3 sz (if wAt wh k = 1 then wh.set k 2 else wh) NN, memA p bs (if wAt wh k = 1 then fillB lt (3 + k * sz) sz true else lt)]) := by
  subst hN
  have := giveA q p 3 sz (3 + k * sz) wh bs lt hb
  have hw := wAt_eq (wh := wh) (k := k) (by rw [hP.wl]; exact hk)
  have he : ptE 1 2 true 11 3 sz wh lt (3 + k * sz) = if wAt wh k = 1 then (0, wh.set k 2, fillB lt (3 + k * sz) sz true) else (3, wh, lt) := by
    unfold ptE
    rw [findK_at hz (by rw [hP.wl]; exact hk)]
    dsimp only
    split
    · rename_i h1
      rw [if_pos (hP.all hk (by rw [hw, h1]; rfl))]
    · rfl
  rw [he] at this
  by_cases h : wAt wh k = 1
  · rw [if_pos h] at this; rw [if_pos h, if_pos h, if_pos h]; exact this
  · rw [if_neg h] at this; rw [if_neg h, if_neg h, if_neg h]; exact this
theorem take_at (q p sz n k NN : Nat) (wh : List UInt8) (bs : List UInt8) (lt : List Bool) (hN : bs.length = NN) (hz : 0 < sz) (hP : PoI n sz wh lt) (hk : k < n) (hb : 3 + k * sz < 4294967296) : Sat Try.prog 24 [.pointer (some ⟨q, 0, none⟩), .int .u32 (3 + k * sz : Nat)] [poolA q p 3 sz wh NN, memA p bs lt] (fun u L' => u = .int .i64 ((if wAt wh k = 2 then 0 else 3 : Nat) : Int) ∧ L' = [poolA q p 3 sz (if wAt wh k = 2 then wh.set k 1 else wh) NN, memA p bs (if wAt wh k = 2 then fillB lt (3 + k * sz) sz false else lt)]) := by
  subst hN
  have := takeA q p 3 sz (3 + k * sz) wh bs lt hb
  have hw := wAt_eq (wh := wh) (k := k) (by rw [hP.wl]; exact hk)
  have he : ptE 2 1 false 12 3 sz wh lt (3 + k * sz) = if wAt wh k = 2 then (0, wh.set k 1, fillB lt (3 + k * sz) sz false) else (3, wh, lt) := by
    unfold ptE
    rw [findK_at hz (by rw [hP.wl]; exact hk)]
    dsimp only
    split
    · rename_i h1
      rw [if_pos (hP.all hk (by rw [hw, h1]; rfl))]
    · rfl
  rw [he] at this
  by_cases h : wAt wh k = 2
  · rw [if_pos h] at this; rw [if_pos h, if_pos h, if_pos h]; exact this
  · rw [if_neg h] at this; rw [if_neg h, if_neg h, if_neg h]; exact this
theorem count_yes {wh : List UInt8} {j : Nat} {y x : UInt8} (h : wh[j]? = some y) (hy : y = x) : (wh.take (j + 1)).count x = (wh.take j).count x + 1 := by
  rw [List.take_add_one, h, List.count_append, hy]; simp
theorem count_no {wh : List UInt8} {j : Nat} {y x : UInt8} (h : wh[j]? = some y) (hy : ¬ y = x) : (wh.take (j + 1)).count x = (wh.take j).count x := by
  rw [List.take_add_one, h, List.count_append]; simp [hy]
theorem npE_at {sz n : Nat} (h1 : 1 ≤ sz) (h2 : sz ≤ 64) (h3 : 1 ≤ n) (h4 : n ≤ 16) : npE (sz * n + 3) 3 sz n = 0 := by
  unfold npE
  have h5 := Nat.le_mul_of_pos_right sz h3
  have h6 : ((sz * n : Nat) : Int) = (sz : Int) * n := Int.natCast_mul _ _
  rw [if_neg (by omega), if_neg (by omega)]
theorem pool_spec (h : Array Obj) (v : Value) (l : List Stp) (hI : Inp h 5 l.length v (stepsV l)) (hok : ∀ t ∈ l, t.ok) (a b sz n : Nat) (ha : a < 256) (hb9 : b < 256) (hsz : sz = a % 64 + 1) (hn : n = b % 16 + 1) :
    Sat Try.prog 4 [.int .u8 a, .int .u8 b, v] [old h] (fun u L' => u = .bool true ∧ L' = [old h]) := by
  refine Sat.enter Try.func4 rfl Try.ntmps4 rfl (fun c R => ?_)
  try simp only [List.cons_append, List.nil_append]
  refine T.seq ?_
  refine T.reg ?_
  refine TO.p (DP.as (by conv => lhs; whnf)) ?_
  refine TO.nil ?_
  refine TQ.nn ?_
  refine T.seq ?_
  refine T.seq ?_
  refine T.reg ?_
  refine TO.p (DP.mv (by conv => lhs; whnf)) ?_
  refine TO.p (DP.lenI hI rfl Try.underlying23) ?_
  refine TO.p (DP.gtr (b := 200) rfl rfl) ?_
  refine TO.nil ?_
  refine TQ.nn ?_
  refine T.condD rfl (fun hc0 => ?_) (fun hc0 => ?_)
  · refine T.seq ?_
    refine T.reg ?_
    refine TO.n (N.callF (works_spec) Try.call8 trivial (by (repeat first | exact Pick.nil _ | (apply Pick.cons; focus ((repeat first | exact Del.head _ _ | apply Del.tail); done))))) ?_
    rintro u29 _ ⟨_, ⟨rfl, rfl⟩, rfl⟩
    try simp only [List.cons_append, List.nil_append]
    refine TO.p (DP.as (by conv => lhs; whnf)) ?_
    refine TO.nil ?_
    refine TQ.nn ?_
    refine T.ret ?_
    refine TQ.nr ?_
    refine TQ.ret (vs := [.bool true]) (L' := [old h]) rfl ⟨rfl, rfl⟩ ⟨rfl, rfl⟩ (by (refine Ent.imp ?_; repeat first | exact Imp.refl _ | exact Imp.nil _ | (apply Imp.pull; focus ((repeat first | exact Del.head _ _ | apply Del.tail); done)) | (apply Imp.row; focus ((repeat first | exact Del.head _ _ | apply Del.tail); done)) | apply Imp.drop))
  · refine T.skip ?_
    refine TQ.nn ?_
    refine T.seq ?_
    refine T.reg ?_
    refine TO.p (DP.mv (by conv => lhs; whnf)) ?_
    refine TO.p (DP.cv rfl is5 Try.underlying3 (l := 9223372036854775808) rfl (by omega)) ?_
    refine TO.p (DP.rem (b := 64) rfl rfl (by omega)) ?_
    refine TO.p (DP.to (v' := .int .i64 (sz : Nat)) (DP.add (b := 1) rfl rfl (l := 9223372036854775808) rfl (by omega)) (by rw [hsz])) ?_
    refine TO.p (DP.mv (by conv => lhs; whnf)) ?_
    refine TO.p (DP.cv rfl is5 Try.underlying3 (l := 9223372036854775808) rfl (by omega)) ?_
    refine TO.p (DP.rem (b := 16) rfl rfl (by omega)) ?_
    refine TO.p (DP.to (v' := .int .i64 (n : Nat)) (DP.add (b := 1) rfl rfl (l := 9223372036854775808) rfl (by omega)) (by rw [hn])) ?_
    refine TO.p (DP.as (by conv => lhs; whnf)) ?_
    refine TO.p (DP.as (by conv => lhs; whnf)) ?_
    refine TO.nil ?_
    refine TQ.nn ?_
    refine T.seq ?_
    have hz1 : 1 ≤ sz := by omega
    have hz2 : sz ≤ 64 := by omega
    have hn1 : 1 ≤ n := by omega
    have hn2 : n ≤ 16 := by omega
    have hzn := Nat.mul_le_mul hz2 hn2
    refine T.reg ?_
    refine TO.p (DP.mv (by conv => lhs; whnf)) ?_
    refine TO.p (DP.mv (by conv => lhs; whnf)) ?_
    refine TO.p (DP.mul rfl rfl (l := 9223372036854775808) rfl (by omega)) ?_
    refine TO.p (DP.add (b := 3) rfl rfl (l := 9223372036854775808) rfl (by omega)) ?_
    refine TO.n (N.callF (newA (sz * n + 3) (by omega) (by omega)) Try.call9 ⟨rfl, trivial⟩ (by (repeat first | exact Pick.nil _ | (apply Pick.cons; focus ((repeat first | exact Del.head _ _ | apply Del.tail); done))))) ?_
    rintro u43 _ ⟨_, ⟨p, rfl, rfl⟩, rfl⟩
    try simp only [List.cons_append, List.nil_append]
    refine TO.p (DP.mv (by conv => lhs; whnf)) ?_
    refine TO.p (DP.ex rfl rfl) ?_
    refine TO.p (DP.ex rfl rfl) ?_
    refine TO.p (DP.as (by conv => lhs; whnf)) ?_
    refine TO.p (DP.as (by conv => lhs; whnf)) ?_
    refine TO.nil ?_
    refine TQ.nn ?_
    refine T.seq ?_
    refine T.seq ?_
    refine T.reg ?_
    refine TO.p (DP.mv (by conv => lhs; whnf)) ?_
    refine TO.p (DP.to (v' := .bool false) (DP.neqI rfl rfl) (by simp)) ?_
    refine TO.p (DP.mv (by conv => lhs; whnf)) ?_
    refine TO.onP rfl (DP.mv (by conv => lhs; whnf)) ?_
    refine TO.onP rfl (DP.peqS rfl rfl Try.underlying26) ?_
    refine TO.p (DP.pkF rfl (by conv => lhs; whnf)) ?_
    refine TO.nil ?_
    refine TQ.nn ?_
    refine T.condF rfl ?_
    refine T.skip ?_
    refine TQ.nn ?_
    refine T.seq ?_
    refine T.reg ?_
    refine TO.p (DP.mv (by conv => lhs; whnf)) ?_
    refine TO.p (DP.mv (by conv => lhs; whnf)) ?_
    refine TO.p (DP.mv (by conv => lhs; whnf)) ?_
    refine TO.n (N.callF (newpool_okA p 3 sz n (List.replicate (sz * n + 3) 0) (List.replicate (sz * n + 3) false) (by decide) (by rw [List.length_replicate]; exact npE_at hz1 hz2 hn1 hn2)) Try.call19 ⟨rfl, rfl, rfl, rfl, trivial⟩ (by (repeat first | exact Pick.nil _ | (apply Pick.cons; focus ((repeat first | exact Del.head _ _ | apply Del.tail); done))))) ?_
    rintro u56 _ ⟨_, ⟨q, rfl, rfl⟩, rfl⟩
    try simp only [List.cons_append, List.nil_append]
    refine TO.p (DP.mv (by conv => lhs; whnf)) ?_
    refine TO.p (DP.ex rfl rfl) ?_
    refine TO.p (DP.ex rfl rfl) ?_
    refine TO.p (DP.as (by conv => lhs; whnf)) ?_
    refine TO.p (DP.as (by conv => lhs; whnf)) ?_
    refine TO.nil ?_
    refine TQ.nn ?_
    refine T.seq ?_
    refine T.seq ?_
    refine T.reg ?_
    refine TO.p (DP.mv (by conv => lhs; whnf)) ?_
    refine TO.p (DP.to (v' := .bool false) (DP.neqI rfl rfl) (by simp)) ?_
    refine TO.p (DP.mv (by conv => lhs; whnf)) ?_
    refine TO.onP rfl (DP.mv (by conv => lhs; whnf)) ?_
    refine TO.onP rfl (DP.peqS rfl rfl Try.underlying46) ?_
    refine TO.p (DP.pkF rfl (by conv => lhs; whnf)) ?_
    refine TO.nil ?_
    refine TQ.nn ?_
    refine T.condF rfl ?_
    refine T.skip ?_
    refine TQ.nn ?_
    refine T.seq ?_
    refine T.reg ?_
    refine TO.p (DP.mv (by conv => lhs; whnf)) ?_
    refine TO.n (N.mk rfl rfl Try.underlying49 sz5 by5 zr5 rfl rfl (by omega)) ?_
    rintro _ _ ⟨b66, rfl, rfl⟩
    have hfl : (List.replicate n [Value.int .u8 0]).flatten = (List.replicate n (0 : UInt8)).map byteV := by simp [byteV]
    rw [hfl]
    refine TO.p (DP.as (by conv => lhs; whnf)) ?_
    refine TO.nil ?_
    refine TQ.nn ?_
    refine T.seq ?_
    refine T.seq ?_
    refine T.reg ?_
    refine TO.p (DP.as (by conv => lhs; whnf)) ?_
    refine TO.nil ?_
    refine TQ.nn ?_
    refine T.block ?_
    refine T.loop (S := Nat × List Bool × List UInt8) (0, List.replicate (sz * n + 3) false, List.replicate n 0) (fun ⟨i, lt, wh⟩ => [(2, v), (7, .int .i64 (sz : Nat)), (8, .int .i64 (n : Nat)), (9, .pointer (some ⟨p, 0, none⟩)), (11, .pointer (some ⟨q, 0, none⟩)), (12, .slice (some ⟨b66, 0, none⟩) n n), (13, .int .i64 (i : Nat))]) (fun ⟨i, lt, wh⟩ => poolA q p 3 sz wh (sz * n + 3) :: row 5 b66 (wh.map byteV) :: memA p (List.replicate (sz * n + 3) 0) lt :: old h :: R) (fun ⟨i, lt, wh⟩ => i ≤ l.length ∧ PoI n sz wh lt) (fun ⟨i, lt, wh⟩ => l.length - i) ?_ ?_ ?_ ?_
    · (repeat first | exact trivial | refine ⟨rfl, ?_⟩)
    · exact ⟨Nat.zero_le _, PoI.init n sz⟩
    · (dsimp only; rw [List.length_replicate]; (refine Ent.imp ?_; repeat first | exact Imp.refl _ | exact Imp.nil _ | (apply Imp.pull; focus ((repeat first | exact Del.head _ _ | apply Del.tail); done)) | (apply Imp.row; focus ((repeat first | exact Del.head _ _ | apply Del.tail); done)) | apply Imp.drop))
    rintro ⟨i, lt, wh⟩ g ⟨hi, hP⟩
    try dsimp only
    refine T.seq ?_
    refine T.seq ?_
    refine T.reg ?_
    refine TO.p (DP.mv (by conv => lhs; whnf)) ?_
    refine TO.p (DP.mv (by conv => lhs; whnf)) ?_
    refine TO.p (DP.lenI hI rfl Try.underlying23) ?_
    refine TO.p (DP.lss rfl rfl) ?_
    refine TO.nil ?_
    refine TQ.nn ?_
    refine T.condD rfl (fun hc3 => ?_) (fun hc3 => ?_)
    · obtain ⟨t, ht⟩ := get_some (l := l) (i := i) (by omega)
      have htk := hok t (mem_of_get ht)
      have hat := htk.at_
      have hil := hI.2.1
      obtain ⟨hb, hhb⟩ : ∃ hb, hb = b66 := ⟨_, rfl⟩
      rw [← hhb]
      clear hhb
      have hwl := hP.wl
      obtain ⟨k, hkd⟩ : ∃ k, k = t.at_ % n := ⟨_, rfl⟩
      have hkn : k < n := by rw [hkd]; exact Nat.mod_lt _ (by omega)
      have hwk := wAt_eq (wh := wh) (k := k) (by omega)
      have hks := Nat.mul_le_mul (show k ≤ 16 by omega) hz2
      refine T.skip ?_
      refine TQ.nn ?_
      refine T.seq ?_
      refine T.block ?_
      refine T.seq ?_
      refine T.reg ?_
      refine TO.p (DP.mv (by conv => lhs; whnf)) ?_
      refine TO.p (DP.mv (by conv => lhs; whnf)) ?_
      refine TO.p (DP.iasH (n := l.length) (sz := 4) hI rfl rfl Try.underlying23 sz33 (by omega)) ?_
      refine TO.d (D.ldHA (us := [.int .i64 t.dd, .int .u32 t.at_, .int .i64 t.n, .int .u64 t.x, str t.s]) hI (by omega) (by conv => lhs; whnf) ag33 sz33 (by (repeat first | exact LMem.head _ _ | apply LMem.tail)) (flat_elem stepV_len ht) rfl) ?_
      refine TO.n (N.alA zr33) ?_
      rintro _ _ ⟨b14, rfl, rfl⟩
      refine TO.n0 (N.stA (vs := [.int .i64 t.dd, .int .u32 t.at_, .int .i64 t.n, .int .u64 t.x, str t.s]) rfl rfl sz33 (by (repeat first | exact Put.head _ _ _ | apply Put.tail)) (by simp) (by simp [Value.oneCell', str]) rfl) ?_
      rintro _ _ ⟨rfl, rfl⟩
      refine TO.nil ?_
      refine TQ.nn ?_
      refine T.seq ?_
      refine T.reg ?_
      refine TO.p (DP.fa 1 rfl Try.underlying33 rfl rfl sz30) ?_
      refine TO.d (D.ldR rfl pl30 (by (repeat first | exact LMem.head _ _ | apply LMem.tail)) (by rfl)) ?_
      refine TO.p (DP.mv (by conv => lhs; whnf)) ?_
      refine TO.p (DP.cv rfl is3 Try.underlying30 (l := 4294967296) rfl (by omega)) ?_
      refine TO.p (DP.to (v' := .int .u32 (k : Nat)) (DP.rem rfl rfl (by omega)) (by rw [hkd])) ?_
      refine TO.p (DP.cv rfl is30 Try.underlying3 (l := 9223372036854775808) rfl (by omega)) ?_
      refine TO.p (DP.as (by conv => lhs; whnf)) ?_
      refine TO.nil ?_
      refine TQ.nn ?_
      refine T.seq ?_
      refine T.reg ?_
      refine TO.p (DP.mv (by conv => lhs; whnf)) ?_
      refine TO.p (DP.mv (by conv => lhs; whnf)) ?_
      refine TO.p (DP.mul rfl rfl (l := 9223372036854775808) rfl (by omega)) ?_
      refine TO.p (DP.add (a := 3) rfl rfl (l := 9223372036854775808) rfl (by omega)) ?_
      refine TO.p (DP.cv rfl is3 Try.underlying30 (l := 4294967296) rfl (by omega)) ?_
      refine TO.p (DP.as (by conv => lhs; whnf)) ?_
      refine TO.nil ?_
      refine TQ.nn ?_
      refine T.cut (S := List Bool × List UInt8) (fun ⟨lt2, wh2⟩ => [(2, v), (7, .int .i64 (sz : Nat)), (8, .int .i64 (n : Nat)), (9, .pointer (some ⟨p, 0, none⟩)), (11, .pointer (some ⟨q, 0, none⟩)), (12, .slice (some ⟨hb, 0, none⟩) n n), (13, .int .i64 (i : Nat))]) (fun ⟨lt2, wh2⟩ => poolA q p 3 sz wh2 (sz * n + 3) :: row 5 hb (wh2.map byteV) :: memA p (List.replicate (sz * n + 3) 0) lt2 :: old h :: R) (fun ⟨lt2, wh2⟩ => PoI n sz wh2 lt2) ?_ ?_
      · refine T.seq ?_
        refine T.reg ?_
        refine TO.p (DP.fa 0 rfl Try.underlying33 rfl rfl sz3) ?_
        refine TO.d (D.ldR rfl pl3 (by (repeat first | exact LMem.head _ _ | apply LMem.tail)) (by rfl)) ?_
        refine TO.nil ?_
        refine TQ.nn ?_
        refine T.block ?_
        refine T.seq ?_
        refine T.reg ?_
        refine TO.p (DP.eqlI rfl rfl) ?_
        refine TO.p (DP.as (by conv => lhs; whnf)) ?_
        refine TO.nil ?_
        refine TQ.nn ?_
        refine T.condD rfl (fun hc4 => ?_) (fun hc4 => ?_)
        · refine T.seq ?_
          refine T.reg ?_
          refine TO.p (DP.mv (by conv => lhs; whnf)) ?_
          refine TO.n (N.callF (getA q p 3 sz (sz * n + 3) wh) Try.call20 ⟨rfl, trivial⟩ (by (repeat first | exact Pick.nil _ | (apply Pick.cons; focus ((repeat first | exact Del.head _ _ | apply Del.tail); done))))) ?_
          rintro u94 _ ⟨_, ⟨rfl, rfl⟩, rfl⟩
          try simp only [List.cons_append, List.nil_append]
          refine TO.p (DP.mv (by conv => lhs; whnf)) ?_
          refine TO.p (DP.ex rfl rfl) ?_
          refine TO.p (DP.ex rfl rfl) ?_
          refine TO.p (DP.as (by conv => lhs; whnf)) ?_
          refine TO.p (DP.as (by conv => lhs; whnf)) ?_
          refine TO.nil ?_
          refine TQ.nn ?_
          refine T.seq ?_
          refine T.seq ?_
          refine T.reg ?_
          refine TO.p (DP.mv (by conv => lhs; whnf)) ?_
          refine TO.p (DP.neq (b := 0) rfl rfl) ?_
          refine TO.nil ?_
          refine TQ.nn ?_
          refine T.condD rfl (fun hc5 => ?_) (fun hc5 => ?_)
          · obtain ⟨he, h0w⟩ : getE 3 sz wh = ((0, 6), wh) ∧ 0 ∉ wh := by
              rcases getE_cases 3 sz wh with hh | ⟨k3, hh, _⟩
              · exact hh
              · rw [hh] at hc5; exact absurd rfl hc5
            rw [he]
            dsimp only
            refine T.seq ?_
            refine T.seq ?_
            refine T.reg ?_
            refine TO.p (DP.mv (by conv => lhs; whnf)) ?_
            refine TO.p (DP.to (v' := .bool false) (DP.neq rfl rfl) (by simp)) ?_
            refine TO.p (DP.mv (by conv => lhs; whnf)) ?_
            refine TO.onP rfl (DP.mv (by conv => lhs; whnf)) ?_
            refine TO.on rfl (N.callF (leftA q p 3 sz (sz * n + 3) wh) Try.call21 ⟨rfl, trivial⟩ (by (repeat first | exact Pick.nil _ | (apply Pick.cons; focus ((repeat first | exact Del.head _ _ | apply Del.tail); done))))) ?_
            rintro u103 _ ⟨_, ⟨rfl, rfl⟩, rfl⟩
            try simp only [List.cons_append, List.nil_append]
            refine TO.onP rfl (DP.to (v' := .bool false) (DP.neq (b := 0) rfl rfl) (by simp [List.count_eq_zero.2 h0w])) ?_
            refine TO.p (DP.pkF rfl (by conv => lhs; whnf)) ?_
            refine TO.nil ?_
            refine TQ.nn ?_
            refine T.condF rfl ?_
            refine T.skip ?_
            refine TQ.nn ?_
            refine T.exit ?_
            refine TQ.ne ?_
            refine TQ.bo rfl ?_
            refine TQ.ce ?_
            refine TQ.be ?_
            refine TQ.nn ?_
            refine T.reg ?_
            refine TO.p (DP.mv (by conv => lhs; whnf)) ?_
            refine TO.p (DP.add (b := 1) rfl rfl (l := 9223372036854775808) rfl (by omega)) ?_
            refine TO.p (DP.as (by conv => lhs; whnf)) ?_
            refine TO.nil ?_
            refine TQ.round (i + 1, lt, wh) rfl ?_ ?_ ?_ ?_
            · (repeat first | exact trivial | refine ⟨rfl, ?_⟩)
            · exact ⟨by dsimp only; omega, hP⟩
            · (dsimp only; omega)
            · (dsimp only; (refine Ent.imp ?_; repeat first | exact Imp.refl _ | exact Imp.nil _ | (apply Imp.pull; focus ((repeat first | exact Del.head _ _ | apply Del.tail); done)) | (apply Imp.row; focus ((repeat first | exact Del.head _ _ | apply Del.tail); done)) | apply Imp.drop))
          · obtain ⟨k2, he, hx2⟩ : ∃ k2, getE 3 sz wh = ((3 + k2 * sz, 0), wh.set k2 1) ∧ wh[k2]? = some 0 := by
              rcases getE_cases 3 sz wh with ⟨hh, _⟩ | hh
              · rw [hh] at hc5; exact absurd (show (6 : Nat) ≠ 0 by decide) hc5
              · exact hh
            rw [he]
            dsimp only
            have hk2 : k2 < wh.length := by
              rcases Nat.lt_or_ge k2 wh.length with hh | hh
              · exact hh
              · rw [List.getElem?_eq_none hh] at hx2; cases hx2
            have hks2 := Nat.mul_le_mul (show k2 ≤ 16 by omega) hz2
            refine T.skip ?_
            refine TQ.nn ?_
            refine T.seq ?_
            refine T.reg ?_
            refine TO.p (DP.mv (by conv => lhs; whnf)) ?_
            refine TO.p (DP.cv rfl is30 Try.underlying3 (l := 9223372036854775808) rfl (by omega)) ?_
            refine TO.p (DP.to (v' := .int .i64 (k2 * sz : Nat)) (DP.sub (b := 3) rfl rfl (l := 9223372036854775808) rfl (by omega) (by omega)) (by simp)) ?_
            refine TO.p (DP.mv (by conv => lhs; whnf)) ?_
            refine TO.p (DP.to (v' := .int .i64 (k2 : Nat)) (DP.quo rfl rfl (by omega) (l := 9223372036854775808) rfl (by omega)) (by rw [Nat.mul_div_cancel _ hz1])) ?_
            refine TO.p (DP.as (by conv => lhs; whnf)) ?_
            refine TO.nil ?_
            refine TQ.nn ?_
            refine T.seq ?_
            refine T.seq ?_
            refine T.reg ?_
            refine TO.p (DP.mv (by conv => lhs; whnf)) ?_
            refine TO.p (DP.cv rfl is30 Try.underlying3 (l := 9223372036854775808) rfl (by omega)) ?_
            refine TO.p (DP.to (v' := .bool false) (DP.lss (b := 3) rfl rfl) (by simp)) ?_
            refine TO.p (DP.mv (by conv => lhs; whnf)) ?_
            refine TO.onP rfl (DP.mv (by conv => lhs; whnf)) ?_
            refine TO.onP rfl (DP.cv rfl is30 Try.underlying3 (l := 9223372036854775808) rfl (by omega)) ?_
            refine TO.onP rfl (DP.to (v' := .int .i64 (k2 * sz : Nat)) (DP.sub (b := 3) rfl rfl (l := 9223372036854775808) rfl (by omega) (by omega)) (by simp)) ?_
            refine TO.onP rfl (DP.mv (by conv => lhs; whnf)) ?_
            refine TO.onP rfl (DP.to (v' := .int .i64 (0 : Nat)) (DP.rem rfl rfl (by omega)) (by rw [Nat.mul_mod_left])) ?_
            refine TO.onP rfl (DP.to (v' := .bool false) (DP.neq (a := 0) (b := 0) rfl rfl) (by simp)) ?_
            refine TO.p (DP.pkF rfl (by conv => lhs; whnf)) ?_
            refine TO.p (DP.mv (by conv => lhs; whnf)) ?_
            refine TO.onP rfl (DP.mv (by conv => lhs; whnf)) ?_
            refine TO.onP rfl (DP.mv (by conv => lhs; whnf)) ?_
            refine TO.onP rfl (DP.to (v' := .bool false) (DP.geq rfl rfl) (by simp; omega)) ?_
            refine TO.p (DP.pkF rfl (by conv => lhs; whnf)) ?_
            refine TO.p (DP.mv (by conv => lhs; whnf)) ?_
            refine TO.onP rfl (DP.mv (by conv => lhs; whnf)) ?_
            refine TO.onP rfl (DP.mv (by conv => lhs; whnf)) ?_
            refine TO.onP rfl (DP.to (v' := .pointer (some ⟨hb, k2, none⟩)) (DP.ias (i := k2) rfl rfl Try.underlying49 sz5 (by omega)) (by simp)) ?_
            refine TO.onD rfl (D.ldR (v := byteV 0) rfl pl5 (by (repeat first | exact LMem.head _ _ | apply LMem.tail)) (map_byte hx2)) ?_
            refine TO.onP rfl (DP.to (v' := .bool false) (DP.neq (a := 0) (b := 0) rfl rfl) (by simp)) ?_
            refine TO.p (DP.pkF rfl (by conv => lhs; whnf)) ?_
            refine TO.nil ?_
            refine TQ.nn ?_
            refine T.condF rfl ?_
            refine T.skip ?_
            refine TQ.nn ?_
            refine T.reg ?_
            refine TO.p (DP.mv (by conv => lhs; whnf)) ?_
            refine TO.p (DP.mv (by conv => lhs; whnf)) ?_
            refine TO.p (DP.to (v' := .pointer (some ⟨hb, k2, none⟩)) (DP.ias (i := k2) rfl rfl Try.underlying49 sz5 (by omega)) (by simp)) ?_
            refine TO.n0 (N.st (et := 5) rfl (by conv => lhs; whnf) sz5 (by (repeat first | exact Put.head _ _ _ | apply Put.tail)) (by rw [List.length_map, hwl]; omega) rfl) ?_
            rintro _ _ ⟨rfl, rfl⟩
            rw [show (wh.map byteV).set k2 (.int .u8 1) = (wh.set k2 1).map byteV by rw [List.map_set]; rfl]
            refine TO.nil ?_
            refine TQ.bn ?_
            refine TQ.cn ⟨lt, wh.set k2 1⟩ rfl ?_ ?_ ?_
            · (repeat first | exact trivial | refine ⟨rfl, ?_⟩)
            · exact hP.same (by decide) (by rw [hx2]; decide)
            · (refine Ent.imp ?_; repeat first | exact Imp.refl _ | exact Imp.nil _ | (apply Imp.pull; focus ((repeat first | exact Del.head _ _ | apply Del.tail); done)) | (apply Imp.row; focus ((repeat first | exact Del.head _ _ | apply Del.tail); done)) | apply Imp.drop)
        · refine T.seq ?_
          refine T.reg ?_
          refine TO.p (DP.eqlI rfl rfl) ?_
          refine TO.p (DP.as (by conv => lhs; whnf)) ?_
          refine TO.nil ?_
          refine TQ.nn ?_
          refine T.condD rfl (fun hc8 => ?_) (fun hc8 => ?_)
          · refine T.seq ?_
            refine T.seq ?_
            refine T.draw ([row 5 hb (wh.map byteV)]) [] mixed (by repeat first | exact Calm.rt | apply Calm.t | apply Calm.b | apply Calm.l | apply Calm.ct) ?_
            refine TR.p 0 rfl (by kernel_rfl) (DP.mv (by conv => lhs; whnf)) ?_
            refine TR.p 1 rfl (by kernel_rfl) (DP.mv (by conv => lhs; whnf)) ?_
            refine TR.p 4 rfl (by kernel_rfl) (DP.mv (by conv => lhs; whnf)) ?_
            refine TR.p 5 rfl (by kernel_rfl) (DP.mv (by conv => lhs; whnf)) ?_
            refine TR.p 6 rfl (by kernel_rfl) (DP.to (v' := .pointer (some ⟨hb, k, none⟩)) (DP.ias (i := k) rfl rfl Try.underlying49 sz5 (by omega)) (by simp)) ?_
            refine TR.d 7 rfl (by kernel_rfl) (by kernel_rfl) (by (refine Ent.imp ?_; repeat first | exact Imp.refl _ | exact Imp.nil _ | (apply Imp.pull; focus ((repeat first | exact Del.head _ _ | apply Del.tail); done)) | (apply Imp.row; focus ((repeat first | exact Del.head _ _ | apply Del.tail); done)) | apply Imp.drop)) (D.ldR (v := byteV (wAt wh k)) rfl pl5 (by (repeat first | exact LMem.head _ _ | apply LMem.tail)) (map_byte hwk)) ?_
            refine TR.p 8 rfl (by kernel_rfl) (DP.eql (b := 1) rfl rfl) ?_
            refine TR.n 2 (by kernel_rfl) rfl (N.callF (put_at q p sz n k (sz * n + 3) wh hz1 hwl hkn (by omega)) Try.call22 ⟨rfl, rfl, trivial⟩ (by (repeat first | exact Pick.nil _ | (apply Pick.cons; focus ((repeat first | exact Del.head _ _ | apply Del.tail); done))))) ?_
            rintro u141 _ ⟨_, ⟨rfl, rfl⟩, rfl⟩
            try simp only [List.cons_append, List.nil_append]
            refine ⟨.inr (by (refine Ent.imp ?_; repeat first | exact Imp.refl _ | exact Imp.nil _ | (apply Imp.pull; focus ((repeat first | exact Del.head _ _ | apply Del.tail); done)) | (apply Imp.row; focus ((repeat first | exact Del.head _ _ | apply Del.tail); done)) | apply Imp.drop)), ?_⟩
            refine TR.p 3 rfl (by kernel_rfl) (DP.eql (b := 0) rfl rfl) ?_
            refine TR.p 9 rfl (by kernel_rfl) (DP.to (v' := .bool false) (DP.bneq rfl rfl Try.underlying4) (by by_cases hh : wAt wh k = 1 <;> simp [hh] <;> exact fun hq => hh (UInt8.toNat_inj.1 hq))) ?_
            refine TR.done (by kernel_rfl) ?_
            refine TQ.nn ?_
            refine T.condF rfl ?_
            refine T.skip ?_
            refine TQ.nn ?_
            refine T.seq ?_
            refine T.reg ?_
            refine TO.p (DP.mv (by conv => lhs; whnf)) ?_
            refine TO.p (DP.mv (by conv => lhs; whnf)) ?_
            refine TO.p (DP.to (v' := .pointer (some ⟨hb, k, none⟩)) (DP.ias (i := k) rfl rfl Try.underlying49 sz5 (by omega)) (by simp)) ?_
            refine TO.d (D.ldR (v := byteV (wAt wh k)) rfl pl5 (by (repeat first | exact LMem.head _ _ | apply LMem.tail)) (map_byte hwk)) ?_
            refine TO.p (DP.eql (b := 1) rfl rfl) ?_
            refine TO.nil ?_
            refine TQ.nn ?_
            refine T.condD rfl (fun hc10 => ?_) (fun hc10 => ?_)
            · have hv1 : wAt wh k = 1 := UInt8.toNat_inj.1 hc10
              refine T.reg ?_
              refine TO.p (DP.mv (by conv => lhs; whnf)) ?_
              refine TO.p (DP.mv (by conv => lhs; whnf)) ?_
              refine TO.p (DP.to (v' := .pointer (some ⟨hb, k, none⟩)) (DP.ias (i := k) rfl rfl Try.underlying49 sz5 (by omega)) (by simp)) ?_
              refine TO.n0 (N.st (et := 5) rfl (by conv => lhs; whnf) sz5 (by (repeat first | exact Put.head _ _ _ | apply Put.tail)) (by rw [List.length_map, hwl]; omega) rfl) ?_
              rintro _ _ ⟨rfl, rfl⟩
              rw [show (wh.map byteV).set k (.int .u8 0) = (wh.set k 0).map byteV by rw [List.map_set]; rfl]
              refine TO.nil ?_
              refine TQ.bn ?_
              refine TQ.cn ⟨lt, wh.set k 0⟩ rfl ?_ ?_ ?_
              · (repeat first | exact trivial | refine ⟨rfl, ?_⟩)
              · exact hP.same (by decide) (by rw [hwk, hv1]; decide)
              · (simp only [if_pos hv1]; (refine Ent.imp ?_; repeat first | exact Imp.refl _ | exact Imp.nil _ | (apply Imp.pull; focus ((repeat first | exact Del.head _ _ | apply Del.tail); done)) | (apply Imp.row; focus ((repeat first | exact Del.head _ _ | apply Del.tail); done)) | apply Imp.drop))
            · have hv1 : ¬ wAt wh k = 1 := fun h2 => hc10 (by rw [h2]; rfl)
              refine T.skip ?_
              refine TQ.bn ?_
              refine TQ.cn ⟨lt, wh⟩ rfl ?_ ?_ ?_
              · (repeat first | exact trivial | refine ⟨rfl, ?_⟩)
              · exact hP
              · (simp only [if_neg hv1]; (refine Ent.imp ?_; repeat first | exact Imp.refl _ | exact Imp.nil _ | (apply Imp.pull; focus ((repeat first | exact Del.head _ _ | apply Del.tail); done)) | (apply Imp.row; focus ((repeat first | exact Del.head _ _ | apply Del.tail); done)) | apply Imp.drop))
          · refine T.seq ?_
            refine T.reg ?_
            refine TO.p (DP.eqlI rfl rfl) ?_
            refine TO.p (DP.as (by conv => lhs; whnf)) ?_
            refine TO.nil ?_
            refine TQ.nn ?_
            refine T.condD rfl (fun hc11 => ?_) (fun hc11 => ?_)
            · refine T.seq ?_
              refine T.seq ?_
              refine T.draw ([row 5 hb (wh.map byteV)]) [] mixed (by repeat first | exact Calm.rt | apply Calm.t | apply Calm.b | apply Calm.l | apply Calm.ct) ?_
              refine TR.p 0 rfl (by kernel_rfl) (DP.mv (by conv => lhs; whnf)) ?_
              refine TR.p 1 rfl (by kernel_rfl) (DP.mv (by conv => lhs; whnf)) ?_
              refine TR.p 4 rfl (by kernel_rfl) (DP.mv (by conv => lhs; whnf)) ?_
              refine TR.p 5 rfl (by kernel_rfl) (DP.mv (by conv => lhs; whnf)) ?_
              refine TR.p 6 rfl (by kernel_rfl) (DP.to (v' := .pointer (some ⟨hb, k, none⟩)) (DP.ias (i := k) rfl rfl Try.underlying49 sz5 (by omega)) (by simp)) ?_
              refine TR.d 7 rfl (by kernel_rfl) (by kernel_rfl) (by (refine Ent.imp ?_; repeat first | exact Imp.refl _ | exact Imp.nil _ | (apply Imp.pull; focus ((repeat first | exact Del.head _ _ | apply Del.tail); done)) | (apply Imp.row; focus ((repeat first | exact Del.head _ _ | apply Del.tail); done)) | apply Imp.drop)) (D.ldR (v := byteV (wAt wh k)) rfl pl5 (by (repeat first | exact LMem.head _ _ | apply LMem.tail)) (map_byte hwk)) ?_
              refine TR.p 8 rfl (by kernel_rfl) (DP.eql (b := 1) rfl rfl) ?_
              refine TR.n 2 (by kernel_rfl) rfl (N.callF (give_at q p sz n k (sz * n + 3) wh (List.replicate (sz * n + 3) 0) lt List.length_replicate hz1 hP hkn (by omega)) Try.call23 ⟨rfl, rfl, trivial⟩ (by (repeat first | exact Pick.nil _ | (apply Pick.cons; focus ((repeat first | exact Del.head _ _ | apply Del.tail); done))))) ?_
              rintro u161 _ ⟨_, ⟨rfl, rfl⟩, rfl⟩
              try simp only [List.cons_append, List.nil_append]
              refine ⟨.inr (by (refine Ent.imp ?_; repeat first | exact Imp.refl _ | exact Imp.nil _ | (apply Imp.pull; focus ((repeat first | exact Del.head _ _ | apply Del.tail); done)) | (apply Imp.row; focus ((repeat first | exact Del.head _ _ | apply Del.tail); done)) | apply Imp.drop)), ?_⟩
              refine TR.p 3 rfl (by kernel_rfl) (DP.eql (b := 0) rfl rfl) ?_
              refine TR.p 9 rfl (by kernel_rfl) (DP.to (v' := .bool false) (DP.bneq rfl rfl Try.underlying4) (by by_cases hh : wAt wh k = 1 <;> simp [hh] <;> exact fun hq => hh (UInt8.toNat_inj.1 hq))) ?_
              refine TR.done (by kernel_rfl) ?_
              refine TQ.nn ?_
              refine T.condF rfl ?_
              refine T.skip ?_
              refine TQ.nn ?_
              refine T.seq ?_
              refine T.reg ?_
              refine TO.p (DP.mv (by conv => lhs; whnf)) ?_
              refine TO.p (DP.mv (by conv => lhs; whnf)) ?_
              refine TO.p (DP.to (v' := .pointer (some ⟨hb, k, none⟩)) (DP.ias (i := k) rfl rfl Try.underlying49 sz5 (by omega)) (by simp)) ?_
              refine TO.d (D.ldR (v := byteV (wAt wh k)) rfl pl5 (by (repeat first | exact LMem.head _ _ | apply LMem.tail)) (map_byte hwk)) ?_
              refine TO.p (DP.eql (b := 1) rfl rfl) ?_
              refine TO.nil ?_
              refine TQ.nn ?_
              refine T.condD rfl (fun hc13 => ?_) (fun hc13 => ?_)
              · have hv1 : wAt wh k = 1 := UInt8.toNat_inj.1 hc13
                refine T.reg ?_
                refine TO.p (DP.mv (by conv => lhs; whnf)) ?_
                refine TO.p (DP.mv (by conv => lhs; whnf)) ?_
                refine TO.p (DP.to (v' := .pointer (some ⟨hb, k, none⟩)) (DP.ias (i := k) rfl rfl Try.underlying49 sz5 (by omega)) (by simp)) ?_
                refine TO.n0 (N.st (et := 5) rfl (by conv => lhs; whnf) sz5 (by (repeat first | exact Put.head _ _ _ | apply Put.tail)) (by rw [List.length_map, hwl]; omega) rfl) ?_
                rintro _ _ ⟨rfl, rfl⟩
                rw [show (wh.map byteV).set k (.int .u8 2) = (wh.set k 2).map byteV by rw [List.map_set]; rfl]
                refine TO.nil ?_
                refine TQ.bn ?_
                refine TQ.cn ⟨fillB lt (3 + k * sz) sz true, wh.set k 2⟩ rfl ?_ ?_ ?_
                · (repeat first | exact trivial | refine ⟨rfl, ?_⟩)
                · exact hP.fill hkn 2 true rfl
                · (simp only [if_pos hv1]; (refine Ent.imp ?_; repeat first | exact Imp.refl _ | exact Imp.nil _ | (apply Imp.pull; focus ((repeat first | exact Del.head _ _ | apply Del.tail); done)) | (apply Imp.row; focus ((repeat first | exact Del.head _ _ | apply Del.tail); done)) | apply Imp.drop))
              · have hv1 : ¬ wAt wh k = 1 := fun h2 => hc13 (by rw [h2]; rfl)
                refine T.skip ?_
                refine TQ.bn ?_
                refine TQ.cn ⟨lt, wh⟩ rfl ?_ ?_ ?_
                · (repeat first | exact trivial | refine ⟨rfl, ?_⟩)
                · exact hP
                · (simp only [if_neg hv1]; (refine Ent.imp ?_; repeat first | exact Imp.refl _ | exact Imp.nil _ | (apply Imp.pull; focus ((repeat first | exact Del.head _ _ | apply Del.tail); done)) | (apply Imp.row; focus ((repeat first | exact Del.head _ _ | apply Del.tail); done)) | apply Imp.drop))
            · refine T.seq ?_
              refine T.reg ?_
              refine TO.p (DP.eqlI rfl rfl) ?_
              refine TO.p (DP.as (by conv => lhs; whnf)) ?_
              refine TO.nil ?_
              refine TQ.nn ?_
              refine T.condD rfl (fun hc14 => ?_) (fun hc14 => ?_)
              · refine T.seq ?_
                refine T.seq ?_
                refine T.draw ([row 5 hb (wh.map byteV)]) [] mixed (by repeat first | exact Calm.rt | apply Calm.t | apply Calm.b | apply Calm.l | apply Calm.ct) ?_
                refine TR.p 0 rfl (by kernel_rfl) (DP.mv (by conv => lhs; whnf)) ?_
                refine TR.p 1 rfl (by kernel_rfl) (DP.mv (by conv => lhs; whnf)) ?_
                refine TR.p 4 rfl (by kernel_rfl) (DP.mv (by conv => lhs; whnf)) ?_
                refine TR.p 5 rfl (by kernel_rfl) (DP.mv (by conv => lhs; whnf)) ?_
                refine TR.p 6 rfl (by kernel_rfl) (DP.to (v' := .pointer (some ⟨hb, k, none⟩)) (DP.ias (i := k) rfl rfl Try.underlying49 sz5 (by omega)) (by simp)) ?_
                refine TR.d 7 rfl (by kernel_rfl) (by kernel_rfl) (by (refine Ent.imp ?_; repeat first | exact Imp.refl _ | exact Imp.nil _ | (apply Imp.pull; focus ((repeat first | exact Del.head _ _ | apply Del.tail); done)) | (apply Imp.row; focus ((repeat first | exact Del.head _ _ | apply Del.tail); done)) | apply Imp.drop)) (D.ldR (v := byteV (wAt wh k)) rfl pl5 (by (repeat first | exact LMem.head _ _ | apply LMem.tail)) (map_byte hwk)) ?_
                refine TR.p 8 rfl (by kernel_rfl) (DP.eql (b := 2) rfl rfl) ?_
                refine TR.n 2 (by kernel_rfl) rfl (N.callF (take_at q p sz n k (sz * n + 3) wh (List.replicate (sz * n + 3) 0) lt List.length_replicate hz1 hP hkn (by omega)) Try.call24 ⟨rfl, rfl, trivial⟩ (by (repeat first | exact Pick.nil _ | (apply Pick.cons; focus ((repeat first | exact Del.head _ _ | apply Del.tail); done))))) ?_
                rintro u181 _ ⟨_, ⟨rfl, rfl⟩, rfl⟩
                try simp only [List.cons_append, List.nil_append]
                refine ⟨.inr (by (refine Ent.imp ?_; repeat first | exact Imp.refl _ | exact Imp.nil _ | (apply Imp.pull; focus ((repeat first | exact Del.head _ _ | apply Del.tail); done)) | (apply Imp.row; focus ((repeat first | exact Del.head _ _ | apply Del.tail); done)) | apply Imp.drop)), ?_⟩
                refine TR.p 3 rfl (by kernel_rfl) (DP.eql (b := 0) rfl rfl) ?_
                refine TR.p 9 rfl (by kernel_rfl) (DP.to (v' := .bool false) (DP.bneq rfl rfl Try.underlying4) (by by_cases hh : wAt wh k = 2 <;> simp [hh] <;> exact fun hq => hh (UInt8.toNat_inj.1 hq))) ?_
                refine TR.done (by kernel_rfl) ?_
                refine TQ.nn ?_
                refine T.condF rfl ?_
                refine T.skip ?_
                refine TQ.nn ?_
                refine T.seq ?_
                refine T.reg ?_
                refine TO.p (DP.mv (by conv => lhs; whnf)) ?_
                refine TO.p (DP.mv (by conv => lhs; whnf)) ?_
                refine TO.p (DP.to (v' := .pointer (some ⟨hb, k, none⟩)) (DP.ias (i := k) rfl rfl Try.underlying49 sz5 (by omega)) (by simp)) ?_
                refine TO.d (D.ldR (v := byteV (wAt wh k)) rfl pl5 (by (repeat first | exact LMem.head _ _ | apply LMem.tail)) (map_byte hwk)) ?_
                refine TO.p (DP.eql (b := 2) rfl rfl) ?_
                refine TO.nil ?_
                refine TQ.nn ?_
                refine T.condD rfl (fun hc16 => ?_) (fun hc16 => ?_)
                · have hv1 : wAt wh k = 2 := UInt8.toNat_inj.1 hc16
                  refine T.reg ?_
                  refine TO.p (DP.mv (by conv => lhs; whnf)) ?_
                  refine TO.p (DP.mv (by conv => lhs; whnf)) ?_
                  refine TO.p (DP.to (v' := .pointer (some ⟨hb, k, none⟩)) (DP.ias (i := k) rfl rfl Try.underlying49 sz5 (by omega)) (by simp)) ?_
                  refine TO.n0 (N.st (et := 5) rfl (by conv => lhs; whnf) sz5 (by (repeat first | exact Put.head _ _ _ | apply Put.tail)) (by rw [List.length_map, hwl]; omega) rfl) ?_
                  rintro _ _ ⟨rfl, rfl⟩
                  rw [show (wh.map byteV).set k (.int .u8 1) = (wh.set k 1).map byteV by rw [List.map_set]; rfl]
                  refine TO.nil ?_
                  refine TQ.bn ?_
                  refine TQ.cn ⟨fillB lt (3 + k * sz) sz false, wh.set k 1⟩ rfl ?_ ?_ ?_
                  · (repeat first | exact trivial | refine ⟨rfl, ?_⟩)
                  · exact hP.fill hkn 1 false rfl
                  · (simp only [if_pos hv1]; (refine Ent.imp ?_; repeat first | exact Imp.refl _ | exact Imp.nil _ | (apply Imp.pull; focus ((repeat first | exact Del.head _ _ | apply Del.tail); done)) | (apply Imp.row; focus ((repeat first | exact Del.head _ _ | apply Del.tail); done)) | apply Imp.drop))
                · have hv1 : ¬ wAt wh k = 2 := fun h2 => hc16 (by rw [h2]; rfl)
                  refine T.skip ?_
                  refine TQ.bn ?_
                  refine TQ.cn ⟨lt, wh⟩ rfl ?_ ?_ ?_
                  · (repeat first | exact trivial | refine ⟨rfl, ?_⟩)
                  · exact hP
                  · (simp only [if_neg hv1]; (refine Ent.imp ?_; repeat first | exact Imp.refl _ | exact Imp.nil _ | (apply Imp.pull; focus ((repeat first | exact Del.head _ _ | apply Del.tail); done)) | (apply Imp.row; focus ((repeat first | exact Del.head _ _ | apply Del.tail); done)) | apply Imp.drop))
              · refine T.skip ?_
                refine TQ.bn ?_
                refine TQ.cn ⟨lt, wh⟩ rfl ?_ ?_ ?_
                · (repeat first | exact trivial | refine ⟨rfl, ?_⟩)
                · exact hP
                · (refine Ent.imp ?_; repeat first | exact Imp.refl _ | exact Imp.nil _ | (apply Imp.pull; focus ((repeat first | exact Del.head _ _ | apply Del.tail); done)) | (apply Imp.row; focus ((repeat first | exact Del.head _ _ | apply Del.tail); done)) | apply Imp.drop)
      rintro ⟨lt2, wh2⟩ g hP2
      try dsimp only
      refine T.seq ?_
      refine T.reg ?_
      refine TO.p (DP.as (by conv => lhs; whnf)) ?_
      refine TO.p (DP.as (by conv => lhs; whnf)) ?_
      refine TO.nil ?_
      refine TQ.nn ?_
      refine T.seq ?_
      refine T.reg ?_
      refine TO.p (DP.mv (by conv => lhs; whnf)) ?_
      refine TO.n (N.callF (lentA p (List.replicate (sz * n + 3) 0) lt2) Try.call11 ⟨rfl, trivial⟩ (by (repeat first | exact Pick.nil _ | (apply Pick.cons; focus ((repeat first | exact Del.head _ _ | apply Del.tail); done))))) ?_
      rintro u198 _ ⟨_, ⟨ss, hsb, hcn, hfl, rfl⟩, rfl⟩
      try simp only [List.cons_append, List.nil_append]
      rw [List.length_replicate] at hcn hfl
      have hwl2 := hP2.wl
      have hP3 := hP2
      rw [hfl] at hP3
      have hle := lens_le hcn
      have hll := hP3.lens hcn
      have hsl : ss.length ≤ 1048576 := (canon_facts hcn (by omega)).1
      refine TO.p (DP.as (by conv => lhs; whnf)) ?_
      refine TO.nil ?_
      refine TQ.nn ?_
      refine T.seq ?_
      refine T.seq ?_
      refine T.reg ?_
      refine TO.p (DP.as (by conv => lhs; whnf)) ?_
      refine TO.nil ?_
      refine TQ.nn ?_
      refine T.block ?_
      refine T.loop (S := Nat) 0 (fun j => [(2, v), (7, .int .i64 (sz : Nat)), (8, .int .i64 (n : Nat)), (9, .pointer (some ⟨p, 0, none⟩)), (11, .pointer (some ⟨q, 0, none⟩)), (12, .slice (some ⟨hb, 0, none⟩) n n), (13, .int .i64 (i : Nat)), (20, .int .i64 (lens (ss.take j) : Nat)), (21, .int .i64 (0 : Nat)), (22, u198), (23, .int .i64 (j : Nat))]) (fun j => poolA q p 3 sz wh2 (sz * n + 3) :: row 5 hb (wh2.map byteV) :: sl 42 2 u198 ss.length (spans ss) :: memA p (List.replicate (sz * n + 3) 0) lt2 :: old h :: R) (fun j => j ≤ ss.length) (fun j => ss.length - j) ?_ ?_ ?_ ?_
      · (repeat first | exact trivial | refine ⟨rfl, ?_⟩)
      · (first | trivial | omega | simp)
      · (refine Ent.imp ?_; repeat first | exact Imp.refl _ | exact Imp.nil _ | (apply Imp.pull; focus ((repeat first | exact Del.head _ _ | apply Del.tail); done)) | (apply Imp.row; focus ((repeat first | exact Del.head _ _ | apply Del.tail); done)) | apply Imp.drop)
      rintro j g hI
      refine T.seq ?_
      refine T.seq ?_
      refine T.reg ?_
      refine TO.p (DP.mv (by conv => lhs; whnf)) ?_
      refine TO.p (DP.mv (by conv => lhs; whnf)) ?_
      refine TO.d (D.lenO (by conv => lhs; whnf) Try.underlying36 (by (repeat first | exact LMem.head _ _ | apply LMem.tail))) ?_
      refine TO.p (DP.lss rfl rfl) ?_
      refine TO.nil ?_
      refine TQ.nn ?_
      refine T.condD rfl (fun hc17 => ?_) (fun hc17 => ?_)
      · obtain ⟨s, hs⟩ := get_some (l := ss) (i := j) (by omega)
        have hls := lens_succ hs
        have hlt := lens_take_le ss (j + 1)
        have hln := spans_ln hs
        refine T.skip ?_
        refine TQ.nn ?_
        refine T.seq ?_
        refine T.block ?_
        refine T.reg ?_
        refine TO.p (DP.mv (by conv => lhs; whnf)) ?_
        refine TO.p (DP.mv (by conv => lhs; whnf)) ?_
        refine TO.p (DP.mv (by conv => lhs; whnf)) ?_
        refine TO.d (D.iasO (by conv => lhs; whnf) rfl Try.underlying36 sz42 (by (repeat first | exact LMem.head _ _ | apply LMem.tail)) (by omega)) ?_
        refine TO.d (D.faO 1 (by conv => lhs; whnf) Try.underlying42 rfl rfl sz30 (by (repeat first | exact LMem.head _ _ | apply LMem.tail)) (by omega)) ?_
        refine TO.d (D.ldOF (by conv => lhs; whnf) pl30 (by (repeat first | exact LMem.head _ _ | apply LMem.tail)) hln (by omega)) ?_
        refine TO.p (DP.cv rfl is30 Try.underlying3 (l := 9223372036854775808) rfl (by omega)) ?_
        refine TO.p (DP.add rfl rfl (l := 9223372036854775808) rfl (by omega)) ?_
        refine TO.p (DP.as (by conv => lhs; whnf)) ?_
        refine TO.nil ?_
        refine TQ.bn ?_
        refine TQ.nn ?_
        refine T.reg ?_
        refine TO.p (DP.mv (by conv => lhs; whnf)) ?_
        refine TO.p (DP.add (b := 1) rfl rfl (l := 9223372036854775808) rfl (by omega)) ?_
        refine TO.p (DP.as (by conv => lhs; whnf)) ?_
        refine TO.nil ?_
        refine TQ.round (j + 1) rfl ?_ ?_ ?_ ?_
        · (repeat first | exact trivial | refine ⟨rfl, ?_⟩ | refine ⟨by rw [hls] <;> rfl, ?_⟩)
        · omega
        · omega
        · (refine Ent.imp ?_; repeat first | exact Imp.refl _ | exact Imp.nil _ | (apply Imp.pull; focus ((repeat first | exact Del.head _ _ | apply Del.tail); done)) | (apply Imp.row; focus ((repeat first | exact Del.head _ _ | apply Del.tail); done)) | apply Imp.drop)
      · obtain rfl : j = ss.length := by omega
        rw [List.take_length, hll]
        refine T.exit ?_
        refine TQ.ne ?_
        refine TQ.le ?_
        refine TQ.be ?_
        refine TQ.nn ?_
        refine T.seq ?_
        refine T.reg ?_
        refine TO.p (DP.as (by conv => lhs; whnf)) ?_
        refine TO.nil ?_
        refine TQ.nn ?_
        refine T.seq ?_
        refine T.seq ?_
        refine T.reg ?_
        refine TO.p (DP.as (by conv => lhs; whnf)) ?_
        refine TO.nil ?_
        refine TQ.nn ?_
        refine T.block ?_
        refine T.loop (S := Nat) 0 (fun j => [(2, v), (7, .int .i64 (sz : Nat)), (8, .int .i64 (n : Nat)), (9, .pointer (some ⟨p, 0, none⟩)), (11, .pointer (some ⟨q, 0, none⟩)), (12, .slice (some ⟨hb, 0, none⟩) n n), (13, .int .i64 (i : Nat)), (20, .int .i64 (wh2.count 2 * sz : Nat)), (21, .int .i64 ((wh2.take j).count 0 : Nat)), (24, .int .i64 ((wh2.take j).count 2 : Nat)), (25, .int .i64 (j : Nat))]) (fun j => poolA q p 3 sz wh2 (sz * n + 3) :: row 5 hb (wh2.map byteV) :: memA p (List.replicate (sz * n + 3) 0) lt2 :: old h :: R) (fun j => j ≤ n) (fun j => n - j) ?_ ?_ ?_ ?_
        · (repeat first | exact trivial | refine ⟨rfl, ?_⟩)
        · (first | trivial | omega | simp)
        · (refine Ent.imp ?_; repeat first | exact Imp.refl _ | exact Imp.nil _ | (apply Imp.pull; focus ((repeat first | exact Del.head _ _ | apply Del.tail); done)) | (apply Imp.row; focus ((repeat first | exact Del.head _ _ | apply Del.tail); done)) | apply Imp.drop)
        rintro j g hI
        refine T.seq ?_
        refine T.seq ?_
        refine T.reg ?_
        refine TO.p (DP.mv (by conv => lhs; whnf)) ?_
        refine TO.p (DP.mv (by conv => lhs; whnf)) ?_
        refine TO.p (DP.lss rfl rfl) ?_
        refine TO.nil ?_
        refine TQ.nn ?_
        refine T.condD rfl (fun hc18 => ?_) (fun hc18 => ?_)
        · obtain ⟨y, hy⟩ := get_some (l := wh2) (i := j) (by omega)
          have hl0 : (wh2.take j).count 0 ≤ j := Nat.le_trans List.count_le_length (by simp; omega)
          have hl2 : (wh2.take j).count 2 ≤ j := Nat.le_trans List.count_le_length (by simp; omega)
          refine T.skip ?_
          refine TQ.nn ?_
          refine T.seq ?_
          refine T.block ?_
          refine T.seq ?_
          refine T.seq ?_
          refine T.reg ?_
          refine TO.p (DP.mv (by conv => lhs; whnf)) ?_
          refine TO.p (DP.mv (by conv => lhs; whnf)) ?_
          refine TO.p (DP.to (v' := .pointer (some ⟨hb, j, none⟩)) (DP.ias (i := j) rfl rfl Try.underlying49 sz5 (by omega)) (by simp)) ?_
          refine TO.d (D.ldR (v := byteV y) rfl pl5 (by (repeat first | exact LMem.head _ _ | apply LMem.tail)) (map_byte hy)) ?_
          refine TO.p (DP.eql (b := 0) rfl rfl) ?_
          refine TO.nil ?_
          refine TQ.nn ?_
          refine T.condD rfl (fun hc19 => ?_) (fun hc19 => ?_)
          · have hc0 := count_yes hy (UInt8.toNat_inj.1 hc19 : y = 0)
            refine T.reg ?_
            refine TO.p (DP.mv (by conv => lhs; whnf)) ?_
            refine TO.p (DP.add (b := 1) rfl rfl (l := 9223372036854775808) rfl (by omega)) ?_
            refine TO.p (DP.as (by conv => lhs; whnf)) ?_
            refine TO.nil ?_
            refine TQ.nn ?_
            refine T.seq ?_
            refine T.reg ?_
            refine TO.p (DP.mv (by conv => lhs; whnf)) ?_
            refine TO.p (DP.mv (by conv => lhs; whnf)) ?_
            refine TO.p (DP.to (v' := .pointer (some ⟨hb, j, none⟩)) (DP.ias (i := j) rfl rfl Try.underlying49 sz5 (by omega)) (by simp)) ?_
            refine TO.d (D.ldR (v := byteV y) rfl pl5 (by (repeat first | exact LMem.head _ _ | apply LMem.tail)) (map_byte hy)) ?_
            refine TO.p (DP.eql (b := 2) rfl rfl) ?_
            refine TO.nil ?_
            refine TQ.nn ?_
            refine T.condD rfl (fun hc20 => ?_) (fun hc20 => ?_)
            · have hc2 := count_yes hy (UInt8.toNat_inj.1 hc20 : y = 2)
              refine T.reg ?_
              refine TO.p (DP.mv (by conv => lhs; whnf)) ?_
              refine TO.p (DP.add (b := 1) rfl rfl (l := 9223372036854775808) rfl (by omega)) ?_
              refine TO.p (DP.as (by conv => lhs; whnf)) ?_
              refine TO.nil ?_
              refine TQ.bn ?_
              refine TQ.nn ?_
              refine T.reg ?_
              refine TO.p (DP.mv (by conv => lhs; whnf)) ?_
              refine TO.p (DP.add (b := 1) rfl rfl (l := 9223372036854775808) rfl (by omega)) ?_
              refine TO.p (DP.as (by conv => lhs; whnf)) ?_
              refine TO.nil ?_
              refine TQ.round (j + 1) rfl ?_ ?_ ?_ ?_
              · (repeat first | exact trivial | refine ⟨rfl, ?_⟩ | refine ⟨by rw [hc0] <;> rfl, ?_⟩ | refine ⟨by rw [hc2] <;> rfl, ?_⟩)
              · omega
              · omega
              · (refine Ent.imp ?_; repeat first | exact Imp.refl _ | exact Imp.nil _ | (apply Imp.pull; focus ((repeat first | exact Del.head _ _ | apply Del.tail); done)) | (apply Imp.row; focus ((repeat first | exact Del.head _ _ | apply Del.tail); done)) | apply Imp.drop)
            · have hc2 := count_no hy (fun h2 => hc20 (by rw [h2]; rfl) : ¬ y = 2)
              refine T.skip ?_
              refine TQ.bn ?_
              refine TQ.nn ?_
              refine T.reg ?_
              refine TO.p (DP.mv (by conv => lhs; whnf)) ?_
              refine TO.p (DP.add (b := 1) rfl rfl (l := 9223372036854775808) rfl (by omega)) ?_
              refine TO.p (DP.as (by conv => lhs; whnf)) ?_
              refine TO.nil ?_
              refine TQ.round (j + 1) rfl ?_ ?_ ?_ ?_
              · (repeat first | exact trivial | refine ⟨rfl, ?_⟩ | refine ⟨by rw [hc0] <;> rfl, ?_⟩ | refine ⟨by rw [hc2] <;> rfl, ?_⟩)
              · omega
              · omega
              · (refine Ent.imp ?_; repeat first | exact Imp.refl _ | exact Imp.nil _ | (apply Imp.pull; focus ((repeat first | exact Del.head _ _ | apply Del.tail); done)) | (apply Imp.row; focus ((repeat first | exact Del.head _ _ | apply Del.tail); done)) | apply Imp.drop)
          · have hc0 := count_no hy (fun h2 => hc19 (by rw [h2]; rfl) : ¬ y = 0)
            refine T.skip ?_
            refine TQ.nn ?_
            refine T.seq ?_
            refine T.reg ?_
            refine TO.p (DP.mv (by conv => lhs; whnf)) ?_
            refine TO.p (DP.mv (by conv => lhs; whnf)) ?_
            refine TO.p (DP.to (v' := .pointer (some ⟨hb, j, none⟩)) (DP.ias (i := j) rfl rfl Try.underlying49 sz5 (by omega)) (by simp)) ?_
            refine TO.d (D.ldR (v := byteV y) rfl pl5 (by (repeat first | exact LMem.head _ _ | apply LMem.tail)) (map_byte hy)) ?_
            refine TO.p (DP.eql (b := 2) rfl rfl) ?_
            refine TO.nil ?_
            refine TQ.nn ?_
            refine T.condD rfl (fun hc20 => ?_) (fun hc20 => ?_)
            · have hc2 := count_yes hy (UInt8.toNat_inj.1 hc20 : y = 2)
              refine T.reg ?_
              refine TO.p (DP.mv (by conv => lhs; whnf)) ?_
              refine TO.p (DP.add (b := 1) rfl rfl (l := 9223372036854775808) rfl (by omega)) ?_
              refine TO.p (DP.as (by conv => lhs; whnf)) ?_
              refine TO.nil ?_
              refine TQ.bn ?_
              refine TQ.nn ?_
              refine T.reg ?_
              refine TO.p (DP.mv (by conv => lhs; whnf)) ?_
              refine TO.p (DP.add (b := 1) rfl rfl (l := 9223372036854775808) rfl (by omega)) ?_
              refine TO.p (DP.as (by conv => lhs; whnf)) ?_
              refine TO.nil ?_
              refine TQ.round (j + 1) rfl ?_ ?_ ?_ ?_
              · (repeat first | exact trivial | refine ⟨rfl, ?_⟩ | refine ⟨by rw [hc0] <;> rfl, ?_⟩ | refine ⟨by rw [hc2] <;> rfl, ?_⟩)
              · omega
              · omega
              · (refine Ent.imp ?_; repeat first | exact Imp.refl _ | exact Imp.nil _ | (apply Imp.pull; focus ((repeat first | exact Del.head _ _ | apply Del.tail); done)) | (apply Imp.row; focus ((repeat first | exact Del.head _ _ | apply Del.tail); done)) | apply Imp.drop)
            · have hc2 := count_no hy (fun h2 => hc20 (by rw [h2]; rfl) : ¬ y = 2)
              refine T.skip ?_
              refine TQ.bn ?_
              refine TQ.nn ?_
              refine T.reg ?_
              refine TO.p (DP.mv (by conv => lhs; whnf)) ?_
              refine TO.p (DP.add (b := 1) rfl rfl (l := 9223372036854775808) rfl (by omega)) ?_
              refine TO.p (DP.as (by conv => lhs; whnf)) ?_
              refine TO.nil ?_
              refine TQ.round (j + 1) rfl ?_ ?_ ?_ ?_
              · (repeat first | exact trivial | refine ⟨rfl, ?_⟩ | refine ⟨by rw [hc0] <;> rfl, ?_⟩ | refine ⟨by rw [hc2] <;> rfl, ?_⟩)
              · omega
              · omega
              · (refine Ent.imp ?_; repeat first | exact Imp.refl _ | exact Imp.nil _ | (apply Imp.pull; focus ((repeat first | exact Del.head _ _ | apply Del.tail); done)) | (apply Imp.row; focus ((repeat first | exact Del.head _ _ | apply Del.tail); done)) | apply Imp.drop)
        · obtain rfl : j = n := by omega
          have htk : wh2.take j = wh2 := by rw [← hwl2, List.take_length]
          rw [htk]
          have hc2l : wh2.count 2 ≤ 16 := Nat.le_trans List.count_le_length (by omega)
          have hcz := Nat.mul_le_mul hc2l hz2
          refine T.exit ?_
          refine TQ.ne ?_
          refine TQ.le ?_
          refine TQ.be ?_
          refine TQ.nn ?_
          refine T.seq ?_
          refine T.reg ?_
          refine TO.p (DP.mv (by conv => lhs; whnf)) ?_
          refine TO.n (N.callF (leftA q p 3 sz (sz * j + 3) wh2) Try.call21 ⟨rfl, trivial⟩ (by (repeat first | exact Pick.nil _ | (apply Pick.cons; focus ((repeat first | exact Del.head _ _ | apply Del.tail); done))))) ?_
          rintro u233 _ ⟨_, ⟨rfl, rfl⟩, rfl⟩
          try simp only [List.cons_append, List.nil_append]
          refine TO.p (DP.mv (by conv => lhs; whnf)) ?_
          refine TO.p (DP.to (v' := .bool false) (DP.neq rfl rfl) (by simp)) ?_
          refine TO.p (DP.mv (by conv => lhs; whnf)) ?_
          refine TO.onP rfl (DP.mv (by conv => lhs; whnf)) ?_
          refine TO.onP rfl (DP.mv (by conv => lhs; whnf)) ?_
          refine TO.onP rfl (DP.mv (by conv => lhs; whnf)) ?_
          refine TO.onP rfl (DP.mul rfl rfl (l := 9223372036854775808) rfl (by omega)) ?_
          refine TO.onP rfl (DP.to (v' := .bool false) (DP.neq rfl rfl) (by simp)) ?_
          refine TO.p (DP.pkF rfl (by conv => lhs; whnf)) ?_
          refine TO.nil ?_
          refine TQ.nn ?_
          refine T.condF rfl ?_
          refine T.skip ?_
          refine TQ.bn ?_
          refine TQ.nn ?_
          refine T.reg ?_
          refine TO.p (DP.mv (by conv => lhs; whnf)) ?_
          refine TO.p (DP.add (b := 1) rfl rfl (l := 9223372036854775808) rfl (by omega)) ?_
          refine TO.p (DP.as (by conv => lhs; whnf)) ?_
          refine TO.nil ?_
          refine TQ.round (i + 1, lt2, wh2) rfl ?_ ?_ ?_ ?_
          · (repeat first | exact trivial | refine ⟨rfl, ?_⟩)
          · exact ⟨by dsimp only; omega, hP2⟩
          · (dsimp only; omega)
          · (dsimp only; (refine Ent.imp ?_; repeat first | exact Imp.refl _ | exact Imp.nil _ | (apply Imp.pull; focus ((repeat first | exact Del.head _ _ | apply Del.tail); done)) | (apply Imp.row; focus ((repeat first | exact Del.head _ _ | apply Del.tail); done)) | apply Imp.drop))
    · refine T.exit ?_
      refine TQ.ne ?_
      refine TQ.le ?_
      refine TQ.be ?_
      refine TQ.nn ?_
      refine T.seq ?_
      refine T.reg ?_
      refine TO.n (N.callF (works_spec) Try.call8 trivial (by (repeat first | exact Pick.nil _ | (apply Pick.cons; focus ((repeat first | exact Del.head _ _ | apply Del.tail); done))))) ?_
      rintro u243 _ ⟨_, ⟨rfl, rfl⟩, rfl⟩
      try simp only [List.cons_append, List.nil_append]
      refine TO.p (DP.as (by conv => lhs; whnf)) ?_
      refine TO.nil ?_
      refine TQ.nn ?_
      refine T.ret ?_
      refine TQ.ret (vs := [.bool true]) (L' := [old h]) rfl ⟨rfl, rfl⟩ ⟨rfl, rfl⟩ (by (refine Ent.imp ?_; repeat first | exact Imp.refl _ | exact Imp.nil _ | (apply Imp.pull; focus ((repeat first | exact Del.head _ _ | apply Del.tail); done)) | (apply Imp.row; focus ((repeat first | exact Del.head _ _ | apply Del.tail); done)) | apply Imp.drop))
end Go.Proofs.Ytpidkdkbgjnhlaa
