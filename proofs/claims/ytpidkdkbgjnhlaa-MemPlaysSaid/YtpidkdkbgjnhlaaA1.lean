/- Lemmas for the proofs of this seat: no statement of the seat is claimed here. -/
import Derived.Test.YtpidkdkbgjnhlaaW13
set_option linter.all false
namespace Go.Proofs.Ytpidkdkbgjnhlaa
open Go Pw
set_option maxHeartbeats 1000000
/-! The memory, the pool, of the program and of the reference: each as one thing; what each call makes of it. -/
def memA (p : Nat) (bs : List UInt8) (lt : List Bool) : Assn :=
  exA (fun x : Nat × Value × List Spn => bs.length ≤ 1048576 ∧ Canon 0 bs.length x.2.2 ∧ lt = flags bs.length x.2.2)
    fun x => [row 78 p [.slice (some ⟨x.1, 0, none⟩) bs.length bs.length, x.2.1], row 5 x.1 (bs.map byteV), sl 42 2 x.2.1 x.2.2.length (spans x.2.2)]
def refA (r : Nat) (bs : List UInt8) (lt : List Bool) : Assn :=
  exA (fun _ : Nat × Nat => bs.length ≤ 1048576 ∧ lt.length = bs.length)
    fun x => [row 63 r [.slice (some ⟨x.1, 0, none⟩) bs.length bs.length, .slice (some ⟨x.2, 0, none⟩) lt.length lt.length], row 5 x.1 (bs.map byteV), row 4 x.2 (lt.map boolV)]
structure PoolOk (at0 sz : Nat) (wh : List UInt8) (n : Nat) : Prop where
  h0 : at0 < 4294967296
  hz : 0 < sz
  hz2 : sz ≤ 1048576
  hc : wh.length ≤ 256
  hn : at0 + wh.length * sz ≤ n
  hn2 : n ≤ 1048576
theorem PoolOk.set {at0 sz n : Nat} {wh : List UInt8} (h : PoolOk at0 sz wh n) (k : Nat) (x : UInt8) : PoolOk at0 sz (wh.set k x) n :=
  ⟨h.h0, h.hz, h.hz2, by simpa using h.hc, by simpa using h.hn, h.hn2⟩
def poolA (q p at0 sz : Nat) (wh : List UInt8) (n : Nat) : Assn :=
  exA (fun _ : Nat => PoolOk at0 sz wh n) fun wb => [row 89 q [.pointer (some ⟨p, 0, none⟩), .int .u32 at0, .int .i64 sz, .slice (some ⟨wb, 0, none⟩) wh.length wh.length], row 5 wb (wh.map byteV)]
def rpoolA (q r at0 sz : Nat) (wh : List UInt8) (n : Nat) : Assn :=
  exA (fun _ : Nat => PoolOk at0 sz wh n) fun wb => [row 94 q [.pointer (some ⟨r, 0, none⟩), .int .u32 at0, .int .i64 sz, .slice (some ⟨wb, 0, none⟩) wh.length wh.length], row 5 wb (wh.map byteV)]
theorem canon_facts {n : Nat} {ss : List Spn} (h : Canon 0 n ss) (hn : n ≤ 1048576) : ss.length ≤ 1048576 ∧ ∀ s ∈ ss, s.1 + s.2 ≤ 1048576 := by
  constructor
  · cases ss with
    | nil => simp
    | cons x t =>
      obtain ⟨h1, h2, h3, h4⟩ := h
      have := h4.len (by omega)
      simp only [List.length_cons]; omega
  · intro s hs
    have := h.ge s hs; omega
/-- The buffer of a place. -/
def findK (at0 sz cnt at_ : Nat) : Option Nat := (List.range cnt).find? fun k => at_ == at0 + k * sz
theorem findK_some {at0 sz cnt at_ k : Nat} (h : findK at0 sz cnt at_ = some k) : k < cnt ∧ at_ = at0 + k * sz := by
  have h1 := List.mem_of_find?_eq_some h
  have h2 := List.find?_some h
  exact ⟨by simpa using h1, by simpa using h2⟩
theorem findK_none {at0 sz cnt at_ : Nat} (h : findK at0 sz cnt at_ = none) : ∀ k, k < cnt → at_ ≠ at0 + k * sz := fun k hk he => by
  have := List.find?_eq_none.1 h k (by simpa using hk)
  simp [he] at this
theorem findK_at {at0 sz cnt k : Nat} (hz : 0 < sz) (hk : k < cnt) : findK at0 sz cnt (at0 + k * sz) = some k := by
  cases h : findK at0 sz cnt (at0 + k * sz) with
  | none => exact absurd rfl (findK_none h k hk)
  | some j =>
    have := (findK_some h).2
    have h2 : k * sz = j * sz := by omega
    rw [Nat.eq_of_mul_eq_mul_right hz h2]
def wAt (wh : List UInt8) (k : Nat) : UInt8 := wh[k]?.getD 0
theorem wAt_eq {wh : List UInt8} {k : Nat} (hk : k < wh.length) : wh[k]? = some (wAt wh k) := by simp [wAt, hk]
def getE (at0 sz : Nat) (wh : List UInt8) : (Nat × Nat) × List UInt8 := match wh.findIdx? (· == 0) with
  | some k => ((at0 + k * sz, 0), wh.set k 1)
  | none => ((0, 6), wh)
def pputE (at0 sz : Nat) (wh : List UInt8) (at_ : Nat) : Nat × List UInt8 := match findK at0 sz wh.length at_ with
  | none => (2, wh)
  | some k => if wAt wh k = 1 then (0, wh.set k 0) else (3, wh)
def ptE (fr to : UInt8) (x : Bool) (e : Nat) (at0 sz : Nat) (wh : List UInt8) (lt : List Bool) (at_ : Nat) : Nat × List UInt8 × List Bool := match findK at0 sz wh.length at_ with
  | none => (2, wh, lt)
  | some k => if wAt wh k = fr then (if allB lt at_ sz (!x) = true then (0, wh.set k to, fillB lt at_ sz x) else (e, wh, lt)) else (3, wh, lt)
def whoseE (at0 sz : Nat) (wh : List UInt8) (at_ : Nat) : UInt8 × Nat := match findK at0 sz wh.length at_ with
  | none => (0, 2)
  | some k => (wAt wh k, 0)
theorem getE_len (at0 sz : Nat) (wh : List UInt8) : (getE at0 sz wh).2.length = wh.length := by unfold getE; split <;> simp
theorem pputE_len (at0 sz : Nat) (wh : List UInt8) (at_ : Nat) : (pputE at0 sz wh at_).2.length = wh.length := by unfold pputE; split; rfl; split <;> simp
theorem ptE_len (fr to : UInt8) (x : Bool) (e : Nat) (at0 sz : Nat) (wh : List UInt8) (lt : List Bool) (at_ : Nat) : (ptE fr to x e at0 sz wh lt at_).2.1.length = wh.length := by unfold ptE; split; rfl; split; split; simp; rfl; rfl
theorem in_pool {at0 sz n at_ k : Nat} {wh : List UInt8} (h : PoolOk at0 sz wh n) (hk : k < wh.length) (he : at_ = at0 + k * sz) : at_ + sz ≤ n := by
  have h1 := Nat.mul_le_mul_right sz (Nat.succ_le_of_lt hk)
  rw [Nat.succ_mul] at h1
  have := h.hn; omega
theorem findIdx_some {wh : List UInt8} {k : Nat} (h : wh.findIdx? (· == 0) = some k) : wh[k]? = some 0 ∧ ∀ j, j < k → wh[j]? ≠ some 0 := by
  obtain ⟨hk, h1, h2⟩ := List.findIdx?_eq_some_iff_getElem.1 h
  refine ⟨by rw [List.getElem?_eq_getElem hk]; simpa using h1, fun j hj hc => ?_⟩
  have := h2 j hj
  rw [List.getElem?_eq_getElem (by omega)] at hc
  simp at hc; simp [hc] at this
theorem findIdx_none {wh : List UInt8} (h : wh.findIdx? (· == 0) = none) : 0 ∉ wh := fun hm => by
  have := List.findIdx?_eq_none_iff.1 h 0 hm
  simp at this
theorem readA (p at_ : Nat) (n : Int) (bs : List UInt8) (lt : List Bool) (ha : at_ < 4294967296) (hn : n < 9223372036854775808) :
    Sat Try.prog 10 [.pointer (some ⟨p, 0, none⟩), .int .u32 at_, .int .i64 n] [memA p bs lt] (fun u L' => u = .tuple #[str (readE bs at_ n).1, .int .i64 ((readE bs at_ n).2 : Nat)] ∧ L' = [memA p bs lt]) := by
  refine Sat.openA1 ?_
  rintro ⟨b, v, ss⟩ ⟨hbs, hcn, rfl⟩
  dsimp only
  obtain ⟨hlen, hb⟩ := canon_facts hcn hbs
  unfold readE
  split
  · rename_i h
    refine (read_neg p b at_ v bs ss n h).post ?_
    rintro u L' ⟨rfl, rfl⟩
    exact ⟨_, Imp.shutA1 ⟨b, v, ss⟩ ⟨hbs, hcn, rfl⟩ (Imp.refl _), rfl, rfl⟩
  · rename_i h
    obtain ⟨m, rfl⟩ := Int.eq_ofNat_of_zero_le (Int.not_lt.1 h)
    rw [Int.toNat_natCast]
    split
    · rename_i h2
      refine (read_ok p b at_ v bs ss m hbs hlen hb ha h2).post ?_
      rintro u L' ⟨rfl, rfl⟩
      exact ⟨_, Imp.shutA1 ⟨b, v, ss⟩ ⟨hbs, hcn, rfl⟩ (Imp.refl _), rfl, rfl⟩
    · rename_i h2
      refine (read_out p b at_ v bs ss m hbs hlen hb ha (by omega) (by omega)).post ?_
      rintro u L' ⟨rfl, rfl⟩
      exact ⟨_, Imp.shutA1 ⟨b, v, ss⟩ ⟨hbs, hcn, rfl⟩ (Imp.refl _), rfl, rfl⟩
theorem rreadA (r at_ : Nat) (n : Int) (bs : List UInt8) (lt : List Bool) (ha : at_ < 4294967296) (hn : n < 9223372036854775808) :
    Sat Try.prog 54 [.pointer (some ⟨r, 0, none⟩), .int .u32 at_, .int .i64 n] [refA r bs lt] (fun u L' => u = .tuple #[str (readE bs at_ n).1, .int .i64 ((readE bs at_ n).2 : Nat)] ∧ L' = [refA r bs lt]) := by
  refine Sat.openA1 ?_
  rintro ⟨b, lb⟩ ⟨hbs, hlt⟩
  dsimp only
  unfold readE
  split
  · rename_i h
    refine (rread_neg r b lb at_ bs lt n hbs hlt ha h).post ?_
    rintro u L' ⟨rfl, rfl⟩
    exact ⟨_, Imp.shutA1 ⟨b, lb⟩ ⟨hbs, hlt⟩ (Imp.refl _), rfl, rfl⟩
  · rename_i h
    obtain ⟨m, rfl⟩ := Int.eq_ofNat_of_zero_le (Int.not_lt.1 h)
    rw [Int.toNat_natCast]
    split
    · rename_i h2
      refine (rread_ok r b lb at_ bs lt m hbs hlt ha h2).post ?_
      rintro u L' ⟨rfl, rfl⟩
      exact ⟨_, Imp.shutA1 ⟨b, lb⟩ ⟨hbs, hlt⟩ (Imp.refl _), rfl, rfl⟩
    · rename_i h2
      refine (rread_out r b lb at_ bs lt m hbs hlt ha (by omega) (by omega)).post ?_
      rintro u L' ⟨rfl, rfl⟩
      exact ⟨_, Imp.shutA1 ⟨b, lb⟩ ⟨hbs, hlt⟩ (Imp.refl _), rfl, rfl⟩
theorem rnumA (r at_ n : Nat) (bs : List UInt8) (lt : List Bool) (ha : at_ < 4294967296) (hn : n ≤ 8) :
    Sat Try.prog 56 [.pointer (some ⟨r, 0, none⟩), .int .u32 at_, .int .i64 n] [refA r bs lt] (fun u L' => u = .tuple #[.int .u64 ((numE bs at_ n).1 : Nat), .int .i64 ((numE bs at_ n).2 : Nat)] ∧ L' = [refA r bs lt]) := by
  refine Sat.openA1 ?_
  rintro ⟨b, lb⟩ ⟨hbs, hlt⟩
  dsimp only
  unfold numE
  split
  · rename_i h2
    refine (rnum_ok r b lb at_ bs lt n hbs hlt ha hn h2).post ?_
    rintro u L' ⟨rfl, rfl⟩
    exact ⟨_, Imp.shutA1 ⟨b, lb⟩ ⟨hbs, hlt⟩ (Imp.refl _), rfl, rfl⟩
  · rename_i h2
    refine (rnum_out r b lb at_ bs lt n hbs hlt ha hn (by omega)).post ?_
    rintro u L' ⟨rfl, rfl⟩
    exact ⟨_, Imp.shutA1 ⟨b, lb⟩ ⟨hbs, hlt⟩ (Imp.refl _), rfl, rfl⟩
theorem u16A (p at_ : Nat) (bs : List UInt8) (lt : List Bool) (ha : at_ < 4294967296) :
    Sat Try.prog 32 [.pointer (some ⟨p, 0, none⟩), .int .u32 at_] [memA p bs lt] (fun u L' => u = .tuple #[.int .u16 ((numE bs at_ 2).1 : Nat), .int .i64 ((numE bs at_ 2).2 : Nat)] ∧ L' = [memA p bs lt]) := by
  refine Sat.openA1 ?_
  rintro ⟨b, v, ss⟩ ⟨hbs, hcn, rfl⟩
  dsimp only
  obtain ⟨hlen, hb⟩ := canon_facts hcn hbs
  unfold numE
  split
  · rename_i h2
    refine (u16_ok p b at_ v bs ss hbs hlen hb ha h2).post ?_
    rintro u L' ⟨rfl, rfl⟩
    exact ⟨_, Imp.shutA1 ⟨b, v, ss⟩ ⟨hbs, hcn, rfl⟩ (Imp.refl _), rfl, rfl⟩
  · rename_i h2
    refine (u16_out p b at_ v bs ss hbs hlen hb ha (by omega)).post ?_
    rintro u L' ⟨rfl, rfl⟩
    exact ⟨_, Imp.shutA1 ⟨b, v, ss⟩ ⟨hbs, hcn, rfl⟩ (Imp.refl _), rfl, rfl⟩
theorem u32A (p at_ : Nat) (bs : List UInt8) (lt : List Bool) (ha : at_ < 4294967296) :
    Sat Try.prog 33 [.pointer (some ⟨p, 0, none⟩), .int .u32 at_] [memA p bs lt] (fun u L' => u = .tuple #[.int .u32 ((numE bs at_ 4).1 : Nat), .int .i64 ((numE bs at_ 4).2 : Nat)] ∧ L' = [memA p bs lt]) := by
  refine Sat.openA1 ?_
  rintro ⟨b, v, ss⟩ ⟨hbs, hcn, rfl⟩
  dsimp only
  obtain ⟨hlen, hb⟩ := canon_facts hcn hbs
  unfold numE
  split
  · rename_i h2
    refine (u32_ok p b at_ v bs ss hbs hlen hb ha h2).post ?_
    rintro u L' ⟨rfl, rfl⟩
    exact ⟨_, Imp.shutA1 ⟨b, v, ss⟩ ⟨hbs, hcn, rfl⟩ (Imp.refl _), rfl, rfl⟩
  · rename_i h2
    refine (u32_out p b at_ v bs ss hbs hlen hb ha (by omega)).post ?_
    rintro u L' ⟨rfl, rfl⟩
    exact ⟨_, Imp.shutA1 ⟨b, v, ss⟩ ⟨hbs, hcn, rfl⟩ (Imp.refl _), rfl, rfl⟩
theorem u64A (p at_ : Nat) (bs : List UInt8) (lt : List Bool) (ha : at_ < 4294967296) :
    Sat Try.prog 34 [.pointer (some ⟨p, 0, none⟩), .int .u32 at_] [memA p bs lt] (fun u L' => u = .tuple #[.int .u64 ((numE bs at_ 8).1 : Nat), .int .i64 ((numE bs at_ 8).2 : Nat)] ∧ L' = [memA p bs lt]) := by
  refine Sat.openA1 ?_
  rintro ⟨b, v, ss⟩ ⟨hbs, hcn, rfl⟩
  dsimp only
  obtain ⟨hlen, hb⟩ := canon_facts hcn hbs
  unfold numE
  split
  · rename_i h2
    refine (u64_ok p b at_ v bs ss hbs hlen hb ha h2).post ?_
    rintro u L' ⟨rfl, rfl⟩
    exact ⟨_, Imp.shutA1 ⟨b, v, ss⟩ ⟨hbs, hcn, rfl⟩ (Imp.refl _), rfl, rfl⟩
  · rename_i h2
    refine (u64_out p b at_ v bs ss hbs hlen hb ha (by omega)).post ?_
    rintro u L' ⟨rfl, rfl⟩
    exact ⟨_, Imp.shutA1 ⟨b, v, ss⟩ ⟨hbs, hcn, rfl⟩ (Imp.refl _), rfl, rfl⟩
theorem writeA (p at_ : Nat) (s : List UInt8) (bs : List UInt8) (lt : List Bool) (ha : at_ < 4294967296) (hs : s.length < 9223372036854775808) :
    Sat Try.prog 12 [.pointer (some ⟨p, 0, none⟩), .int .u32 at_, str s] [memA p bs lt] (fun u L' => u = .int .i64 ((writeE bs lt at_ s false 11).1 : Nat) ∧ L' = [memA p (writeE bs lt at_ s false 11).2 lt]) := by
  refine Sat.openA1 ?_
  rintro ⟨b, v, ss⟩ ⟨hbs, hcn, rfl⟩
  dsimp only
  obtain ⟨hlen, hb⟩ := canon_facts hcn hbs
  unfold writeE
  
  split
  · rename_i h2
    split
    · rename_i h3
      refine (write_ok p b at_ v bs ss s hbs hlen hb ha h2 ((all_false hcn h2).1 h3)).post ?_
      rintro u L' ⟨rfl, rfl⟩
      have hpl := putB_len (bs := bs) (a := at_) (s := s) (by skip; exact h2)
      refine ⟨_, Imp.shutA1 ⟨b, v, ss⟩ ⟨by rw [hpl]; exact hbs, by rw [hpl]; exact hcn, by rw [hpl]⟩ (by rw [hpl]; exact Imp.refl _), rfl, rfl⟩
    · rename_i h3
      refine (write_bad p b at_ v bs ss s hbs hlen hb ha h2 (Nat.pos_of_ne_zero fun h4 => h3 ((all_false hcn h2).2 h4))).post ?_
      rintro u L' ⟨rfl, rfl⟩
      exact ⟨_, Imp.shutA1 ⟨b, v, ss⟩ ⟨hbs, hcn, rfl⟩ (Imp.refl _), rfl, rfl⟩
  · rename_i h2
    refine (write_out p b at_ v bs ss s hbs hlen hb ha hs (by omega)).post ?_
    rintro u L' ⟨rfl, rfl⟩
    exact ⟨_, Imp.shutA1 ⟨b, v, ss⟩ ⟨hbs, hcn, rfl⟩ (Imp.refl _), rfl, rfl⟩
theorem deviceA (p at_ : Nat) (s : List UInt8) (bs : List UInt8) (lt : List Bool) (ha : at_ < 4294967296) (hs : s.length < 9223372036854775808) :
    Sat Try.prog 16 [.pointer (some ⟨p, 0, none⟩), .int .u32 at_, str s] [memA p bs lt] (fun u L' => u = .int .i64 ((writeE bs lt at_ s true 12).1 : Nat) ∧ L' = [memA p (writeE bs lt at_ s true 12).2 lt]) := by
  refine Sat.openA1 ?_
  rintro ⟨b, v, ss⟩ ⟨hbs, hcn, rfl⟩
  dsimp only
  obtain ⟨hlen, hb⟩ := canon_facts hcn hbs
  unfold writeE
  
  split
  · rename_i h2
    split
    · rename_i h3
      refine (device_ok p b at_ v bs ss s hbs hlen hb ha h2 ((all_true hcn h2).1 h3)).post ?_
      rintro u L' ⟨rfl, rfl⟩
      have hpl := putB_len (bs := bs) (a := at_) (s := s) (by skip; exact h2)
      refine ⟨_, Imp.shutA1 ⟨b, v, ss⟩ ⟨by rw [hpl]; exact hbs, by rw [hpl]; exact hcn, by rw [hpl]⟩ (by rw [hpl]; exact Imp.refl _), rfl, rfl⟩
    · rename_i h3
      refine (device_bad p b at_ v bs ss s hbs hlen hb ha h2 (Nat.lt_of_not_le fun h4 => h3 ((all_true hcn h2).2 h4))).post ?_
      rintro u L' ⟨rfl, rfl⟩
      exact ⟨_, Imp.shutA1 ⟨b, v, ss⟩ ⟨hbs, hcn, rfl⟩ (Imp.refl _), rfl, rfl⟩
  · rename_i h2
    refine (device_out p b at_ v bs ss s hbs hlen hb ha hs (by omega)).post ?_
    rintro u L' ⟨rfl, rfl⟩
    exact ⟨_, Imp.shutA1 ⟨b, v, ss⟩ ⟨hbs, hcn, rfl⟩ (Imp.refl _), rfl, rfl⟩
theorem put16A (p at_ : Nat) (x : Nat) (bs : List UInt8) (lt : List Bool) (ha : at_ < 4294967296) (hx : x < 65536) :
    Sat Try.prog 36 [.pointer (some ⟨p, 0, none⟩), .int .u32 at_, .int .u16 x] [memA p bs lt] (fun u L' => u = .int .i64 ((writeE bs lt at_ (leB x 2) false 11).1 : Nat) ∧ L' = [memA p (writeE bs lt at_ (leB x 2) false 11).2 lt]) := by
  refine Sat.openA1 ?_
  rintro ⟨b, v, ss⟩ ⟨hbs, hcn, rfl⟩
  dsimp only
  obtain ⟨hlen, hb⟩ := canon_facts hcn hbs
  unfold writeE
  rw [leB_len]
  split
  · rename_i h2
    split
    · rename_i h3
      refine (put16_ok p b at_ v bs ss x hx hbs hlen hb ha h2 ((all_false hcn h2).1 h3)).post ?_
      rintro u L' ⟨rfl, rfl⟩
      have hpl := putB_len (bs := bs) (a := at_) (s := (leB x 2)) (by rw [leB_len]; exact h2)
      refine ⟨_, Imp.shutA1 ⟨b, v, ss⟩ ⟨by rw [hpl]; exact hbs, by rw [hpl]; exact hcn, by rw [hpl]⟩ (by rw [hpl]; exact Imp.refl _), rfl, rfl⟩
    · rename_i h3
      refine (put16_bad p b at_ v bs ss x hx hbs hlen hb ha h2 (Nat.pos_of_ne_zero fun h4 => h3 ((all_false hcn h2).2 h4))).post ?_
      rintro u L' ⟨rfl, rfl⟩
      exact ⟨_, Imp.shutA1 ⟨b, v, ss⟩ ⟨hbs, hcn, rfl⟩ (Imp.refl _), rfl, rfl⟩
  · rename_i h2
    refine (put16_out p b at_ v bs ss x hx hbs hlen hb ha (by omega)).post ?_
    rintro u L' ⟨rfl, rfl⟩
    exact ⟨_, Imp.shutA1 ⟨b, v, ss⟩ ⟨hbs, hcn, rfl⟩ (Imp.refl _), rfl, rfl⟩
theorem put32A (p at_ : Nat) (x : Nat) (bs : List UInt8) (lt : List Bool) (ha : at_ < 4294967296) (hx : x < 4294967296) :
    Sat Try.prog 37 [.pointer (some ⟨p, 0, none⟩), .int .u32 at_, .int .u32 x] [memA p bs lt] (fun u L' => u = .int .i64 ((writeE bs lt at_ (leB x 4) false 11).1 : Nat) ∧ L' = [memA p (writeE bs lt at_ (leB x 4) false 11).2 lt]) := by
  refine Sat.openA1 ?_
  rintro ⟨b, v, ss⟩ ⟨hbs, hcn, rfl⟩
  dsimp only
  obtain ⟨hlen, hb⟩ := canon_facts hcn hbs
  unfold writeE
  rw [leB_len]
  split
  · rename_i h2
    split
    · rename_i h3
      refine (put32_ok p b at_ v bs ss x hx hbs hlen hb ha h2 ((all_false hcn h2).1 h3)).post ?_
      rintro u L' ⟨rfl, rfl⟩
      have hpl := putB_len (bs := bs) (a := at_) (s := (leB x 4)) (by rw [leB_len]; exact h2)
      refine ⟨_, Imp.shutA1 ⟨b, v, ss⟩ ⟨by rw [hpl]; exact hbs, by rw [hpl]; exact hcn, by rw [hpl]⟩ (by rw [hpl]; exact Imp.refl _), rfl, rfl⟩
    · rename_i h3
      refine (put32_bad p b at_ v bs ss x hx hbs hlen hb ha h2 (Nat.pos_of_ne_zero fun h4 => h3 ((all_false hcn h2).2 h4))).post ?_
      rintro u L' ⟨rfl, rfl⟩
      exact ⟨_, Imp.shutA1 ⟨b, v, ss⟩ ⟨hbs, hcn, rfl⟩ (Imp.refl _), rfl, rfl⟩
  · rename_i h2
    refine (put32_out p b at_ v bs ss x hx hbs hlen hb ha (by omega)).post ?_
    rintro u L' ⟨rfl, rfl⟩
    exact ⟨_, Imp.shutA1 ⟨b, v, ss⟩ ⟨hbs, hcn, rfl⟩ (Imp.refl _), rfl, rfl⟩
theorem put64A (p at_ : Nat) (x : Nat) (bs : List UInt8) (lt : List Bool) (ha : at_ < 4294967296) (hx : x < 18446744073709551616) :
    Sat Try.prog 38 [.pointer (some ⟨p, 0, none⟩), .int .u32 at_, .int .u64 x] [memA p bs lt] (fun u L' => u = .int .i64 ((writeE bs lt at_ (leB x 8) false 11).1 : Nat) ∧ L' = [memA p (writeE bs lt at_ (leB x 8) false 11).2 lt]) := by
  refine Sat.openA1 ?_
  rintro ⟨b, v, ss⟩ ⟨hbs, hcn, rfl⟩
  dsimp only
  obtain ⟨hlen, hb⟩ := canon_facts hcn hbs
  unfold writeE
  rw [leB_len]
  split
  · rename_i h2
    split
    · rename_i h3
      refine (put64_ok p b at_ v bs ss x hx hbs hlen hb ha h2 ((all_false hcn h2).1 h3)).post ?_
      rintro u L' ⟨rfl, rfl⟩
      have hpl := putB_len (bs := bs) (a := at_) (s := (leB x 8)) (by rw [leB_len]; exact h2)
      refine ⟨_, Imp.shutA1 ⟨b, v, ss⟩ ⟨by rw [hpl]; exact hbs, by rw [hpl]; exact hcn, by rw [hpl]⟩ (by rw [hpl]; exact Imp.refl _), rfl, rfl⟩
    · rename_i h3
      refine (put64_bad p b at_ v bs ss x hx hbs hlen hb ha h2 (Nat.pos_of_ne_zero fun h4 => h3 ((all_false hcn h2).2 h4))).post ?_
      rintro u L' ⟨rfl, rfl⟩
      exact ⟨_, Imp.shutA1 ⟨b, v, ss⟩ ⟨hbs, hcn, rfl⟩ (Imp.refl _), rfl, rfl⟩
  · rename_i h2
    refine (put64_out p b at_ v bs ss x hx hbs hlen hb ha (by omega)).post ?_
    rintro u L' ⟨rfl, rfl⟩
    exact ⟨_, Imp.shutA1 ⟨b, v, ss⟩ ⟨hbs, hcn, rfl⟩ (Imp.refl _), rfl, rfl⟩
theorem rwriteA (r at_ : Nat) (s : List UInt8) (bs : List UInt8) (lt : List Bool) (ha : at_ < 4294967296) (hs : s.length < 9223372036854775808) :
    Sat Try.prog 58 [.pointer (some ⟨r, 0, none⟩), .int .u32 at_, str s] [refA r bs lt] (fun u L' => u = .int .i64 ((writeE bs lt at_ s false 11).1 : Nat) ∧ L' = [refA r (writeE bs lt at_ s false 11).2 lt]) := by
  refine Sat.openA1 ?_
  rintro ⟨b, lb⟩ ⟨hbs, hlt⟩
  dsimp only
  unfold writeE
  split
  · rename_i h2
    split
    · rename_i h3
      refine (rwrite_ok r b lb at_ bs lt s hbs hlt ha h2 h3).post ?_
      rintro u L' ⟨rfl, rfl⟩
      have hpl := putB_len (bs := bs) (a := at_) (s := s) h2
      refine ⟨_, Imp.shutA1 ⟨b, lb⟩ ⟨by rw [hpl]; exact hbs, by rw [hpl]; exact hlt⟩ (by rw [hpl]; exact Imp.refl _), rfl, rfl⟩
    · rename_i h3
      refine (rwrite_bad r b lb at_ bs lt s hbs hlt ha h2 (by simpa using h3)).post ?_
      rintro u L' ⟨rfl, rfl⟩
      exact ⟨_, Imp.shutA1 ⟨b, lb⟩ ⟨hbs, hlt⟩ (Imp.refl _), rfl, rfl⟩
  · rename_i h2
    refine (rwrite_out r b lb at_ bs lt s hbs hlt ha (by omega)).post ?_
    rintro u L' ⟨rfl, rfl⟩
    exact ⟨_, Imp.shutA1 ⟨b, lb⟩ ⟨hbs, hlt⟩ (Imp.refl _), rfl, rfl⟩
theorem rdeviceA (r at_ : Nat) (s : List UInt8) (bs : List UInt8) (lt : List Bool) (ha : at_ < 4294967296) (hs : s.length < 9223372036854775808) :
    Sat Try.prog 62 [.pointer (some ⟨r, 0, none⟩), .int .u32 at_, str s] [refA r bs lt] (fun u L' => u = .int .i64 ((writeE bs lt at_ s true 12).1 : Nat) ∧ L' = [refA r (writeE bs lt at_ s true 12).2 lt]) := by
  refine Sat.openA1 ?_
  rintro ⟨b, lb⟩ ⟨hbs, hlt⟩
  dsimp only
  unfold writeE
  split
  · rename_i h2
    split
    · rename_i h3
      refine (rdevice_ok r b lb at_ bs lt s hbs hlt ha h2 h3).post ?_
      rintro u L' ⟨rfl, rfl⟩
      have hpl := putB_len (bs := bs) (a := at_) (s := s) h2
      refine ⟨_, Imp.shutA1 ⟨b, lb⟩ ⟨by rw [hpl]; exact hbs, by rw [hpl]; exact hlt⟩ (by rw [hpl]; exact Imp.refl _), rfl, rfl⟩
    · rename_i h3
      refine (rdevice_bad r b lb at_ bs lt s hbs hlt ha h2 (by simpa using h3)).post ?_
      rintro u L' ⟨rfl, rfl⟩
      exact ⟨_, Imp.shutA1 ⟨b, lb⟩ ⟨hbs, hlt⟩ (Imp.refl _), rfl, rfl⟩
  · rename_i h2
    refine (rdevice_out r b lb at_ bs lt s hbs hlt ha (by omega)).post ?_
    rintro u L' ⟨rfl, rfl⟩
    exact ⟨_, Imp.shutA1 ⟨b, lb⟩ ⟨hbs, hlt⟩ (Imp.refl _), rfl, rfl⟩
theorem hsort_of {n : Nat} {ss : List Spn} (h : Canon 0 n ss) : ∀ (m h' : Nat) (x y : Spn), m ≤ h' → ss[m]? = some x → ss[h']? = some y → x.1 ≤ y.1 := fun m h' x y => h.sort m h' x y
theorem lendA (p at_ l : Nat) (bs : List UInt8) (lt : List Bool) (ha : at_ < 4294967296) (hl : l < 4294967296) :
    Sat Try.prog 14 [.pointer (some ⟨p, 0, none⟩), .agg #[.int .u32 at_, .int .u32 l]] [memA p bs lt] (fun u L' => u = .int .i64 ((turnE lt at_ l true 11).1 : Nat) ∧ L' = [memA p bs (turnE lt at_ l true 11).2]) := by
  refine Sat.openA1 ?_
  rintro ⟨b, v, ss⟩ ⟨hbs, hcn, rfl⟩
  dsimp only
  obtain ⟨hlen, hb⟩ := canon_facts hcn hbs
  unfold turnE
  rw [flags_len]
  split
  · rename_i h1
    have h2 := h1.2
    split
    · rename_i h3
      refine (lend_ok p b at_ l v bs ss hbs hlen hb ha hl h1.1 h2 ((all_false hcn h2).1 h3) (hsort_of hcn)).post ?_
      rintro u L' ⟨v2, pre, post, rfl, he, g1, g2, rfl⟩
      obtain ⟨c1, c2⟩ := lend_plain hcn he g1 g2 h1.1 h2 ((all_false hcn h2).1 h3)
      exact ⟨_, Imp.shutA1 ⟨b, v2, _⟩ ⟨hbs, c1, lend_flags h2 c2⟩ (Imp.refl _), rfl, rfl⟩
    · rename_i h3
      refine (lend_bad p b at_ l v bs ss hbs hlen hb ha hl h1.1 h2 (Nat.pos_of_ne_zero fun h4 => h3 ((all_false hcn h2).2 h4))).post ?_
      rintro u L' ⟨rfl, rfl⟩
      exact ⟨_, Imp.shutA1 ⟨b, v, ss⟩ ⟨hbs, hcn, rfl⟩ (Imp.refl _), rfl, rfl⟩
  · rename_i h1
    refine (lend_out p b at_ l v bs ss hbs hlen hb ha hl (by omega)).post ?_
    rintro u L' ⟨rfl, rfl⟩
    exact ⟨_, Imp.shutA1 ⟨b, v, ss⟩ ⟨hbs, hcn, rfl⟩ (Imp.refl _), rfl, rfl⟩
theorem rlendA (r at_ l : Nat) (bs : List UInt8) (lt : List Bool) (ha : at_ < 4294967296) (hl : l < 4294967296) :
    Sat Try.prog 60 [.pointer (some ⟨r, 0, none⟩), .agg #[.int .u32 at_, .int .u32 l]] [refA r bs lt] (fun u L' => u = .int .i64 ((turnE lt at_ l true 11).1 : Nat) ∧ L' = [refA r bs (turnE lt at_ l true 11).2]) := by
  refine Sat.openA1 ?_
  rintro ⟨b, lb⟩ ⟨hbs, hlt⟩
  dsimp only
  unfold turnE
  split
  · rename_i h1
    have h2 : at_ + l ≤ bs.length := by have := h1.2; omega
    split
    · rename_i h3
      refine (rlend_ok r b lb at_ l bs lt hbs hlt ha hl h1.1 h2 h3).post ?_
      rintro u L' ⟨rfl, rfl⟩
      have hpl := fillB_len (lt := lt) (a := at_) (l := l) (x := true) (by omega)
      refine ⟨_, Imp.shutA1 ⟨b, lb⟩ ⟨hbs, by rw [hpl]; exact hlt⟩ (by dsimp only; rw [hpl]; exact Imp.refl _), rfl, rfl⟩
    · rename_i h3
      refine (rlend_bad r b lb at_ l bs lt hbs hlt ha hl h1.1 h2 (by simpa using h3)).post ?_
      rintro u L' ⟨rfl, rfl⟩
      exact ⟨_, Imp.shutA1 ⟨b, lb⟩ ⟨hbs, hlt⟩ (Imp.refl _), rfl, rfl⟩
  · rename_i h1
    rcases Nat.eq_zero_or_pos l with h0 | h0
    · refine (rlend_zero r b lb at_ l bs lt hbs hlt ha hl h0).post ?_
      rintro u L' ⟨rfl, rfl⟩
      exact ⟨_, Imp.shutA1 ⟨b, lb⟩ ⟨hbs, hlt⟩ (Imp.refl _), rfl, rfl⟩
    · refine (rlend_out r b lb at_ l bs lt hbs hlt ha hl h0 (by omega)).post ?_
      rintro u L' ⟨rfl, rfl⟩
      exact ⟨_, Imp.shutA1 ⟨b, lb⟩ ⟨hbs, hlt⟩ (Imp.refl _), rfl, rfl⟩
theorem backA (p at_ l : Nat) (bs : List UInt8) (lt : List Bool) (ha : at_ < 4294967296) (hl : l < 4294967296) :
    Sat Try.prog 15 [.pointer (some ⟨p, 0, none⟩), .agg #[.int .u32 at_, .int .u32 l]] [memA p bs lt] (fun u L' => u = .int .i64 ((turnE lt at_ l false 12).1 : Nat) ∧ L' = [memA p bs (turnE lt at_ l false 12).2]) := by
  refine Sat.openA1 ?_
  rintro ⟨b, v, ss⟩ ⟨hbs, hcn, rfl⟩
  dsimp only
  obtain ⟨hlen, hb⟩ := canon_facts hcn hbs
  unfold turnE
  rw [flags_len]
  split
  · rename_i h1
    have h2 := h1.2
    split
    · rename_i h3
      refine (back_ok p b at_ l v bs ss hbs hlen hb ha hl h1.1 h2 ((all_true hcn h2).1 h3)).post ?_
      rintro u L' ⟨v2, rfl, rfl⟩
      obtain ⟨c1, c2⟩ := back_plain h1.1 hcn (hcn.one h1.1 ((shared_all hcn at_ l).1 ((all_true hcn h2).1 h3)))
      exact ⟨_, Imp.shutA1 ⟨b, v2, _⟩ ⟨hbs, c1, back_flags h2 c2⟩ (Imp.refl _), rfl, rfl⟩
    · rename_i h3
      refine (back_bad p b at_ l v bs ss hbs hlen hb ha hl h1.1 h2 (Nat.lt_of_not_le fun h4 => h3 ((all_true hcn h2).2 h4))).post ?_
      rintro u L' ⟨rfl, rfl⟩
      exact ⟨_, Imp.shutA1 ⟨b, v, ss⟩ ⟨hbs, hcn, rfl⟩ (Imp.refl _), rfl, rfl⟩
  · rename_i h1
    refine (back_out p b at_ l v bs ss hbs hlen hb ha hl (by omega)).post ?_
    rintro u L' ⟨rfl, rfl⟩
    exact ⟨_, Imp.shutA1 ⟨b, v, ss⟩ ⟨hbs, hcn, rfl⟩ (Imp.refl _), rfl, rfl⟩
theorem rbackA (r at_ l : Nat) (bs : List UInt8) (lt : List Bool) (ha : at_ < 4294967296) (hl : l < 4294967296) :
    Sat Try.prog 61 [.pointer (some ⟨r, 0, none⟩), .agg #[.int .u32 at_, .int .u32 l]] [refA r bs lt] (fun u L' => u = .int .i64 ((turnE lt at_ l false 12).1 : Nat) ∧ L' = [refA r bs (turnE lt at_ l false 12).2]) := by
  refine Sat.openA1 ?_
  rintro ⟨b, lb⟩ ⟨hbs, hlt⟩
  dsimp only
  unfold turnE
  split
  · rename_i h1
    have h2 : at_ + l ≤ bs.length := by have := h1.2; omega
    split
    · rename_i h3
      refine (rback_ok r b lb at_ l bs lt hbs hlt ha hl h1.1 h2 h3).post ?_
      rintro u L' ⟨rfl, rfl⟩
      have hpl := fillB_len (lt := lt) (a := at_) (l := l) (x := false) (by omega)
      refine ⟨_, Imp.shutA1 ⟨b, lb⟩ ⟨hbs, by rw [hpl]; exact hlt⟩ (by dsimp only; rw [hpl]; exact Imp.refl _), rfl, rfl⟩
    · rename_i h3
      refine (rback_bad r b lb at_ l bs lt hbs hlt ha hl h1.1 h2 (by simpa using h3)).post ?_
      rintro u L' ⟨rfl, rfl⟩
      exact ⟨_, Imp.shutA1 ⟨b, lb⟩ ⟨hbs, hlt⟩ (Imp.refl _), rfl, rfl⟩
  · rename_i h1
    rcases Nat.eq_zero_or_pos l with h0 | h0
    · refine (rback_zero r b lb at_ l bs lt hbs hlt ha hl h0).post ?_
      rintro u L' ⟨rfl, rfl⟩
      exact ⟨_, Imp.shutA1 ⟨b, lb⟩ ⟨hbs, hlt⟩ (Imp.refl _), rfl, rfl⟩
    · refine (rback_out r b lb at_ l bs lt hbs hlt ha hl h0 (by omega)).post ?_
      rintro u L' ⟨rfl, rfl⟩
      exact ⟨_, Imp.shutA1 ⟨b, lb⟩ ⟨hbs, hlt⟩ (Imp.refl _), rfl, rfl⟩
theorem lentA (p : Nat) (bs : List UInt8) (lt : List Bool) :
    Sat Try.prog 11 [.pointer (some ⟨p, 0, none⟩)] [memA p bs lt] (fun u L' => ∃ ss, bs.length ≤ 1048576 ∧ Canon 0 bs.length ss ∧ lt = flags bs.length ss ∧ L' = [memA p bs lt, sl 42 2 u ss.length (spans ss)]) := by
  refine Sat.openA1 ?_
  rintro ⟨b, v, ss⟩ ⟨hbs, hcn, rfl⟩
  dsimp only
  obtain ⟨hlen, hb⟩ := canon_facts hcn hbs
  refine Sat.imp (A' := [row 78 p [.slice (some ⟨b, 0, none⟩) bs.length bs.length, v], sl 42 2 v ss.length (spans ss)] ++ [row 5 b (bs.map byteV)]) (by (repeat first | exact Imp.refl _ | exact Imp.nil _ | (apply Imp.pull; focus ((repeat first | exact Del.head _ _ | apply Del.tail); done)) | apply Imp.drop)) ?_
  refine ((lent_spec p _ v ss hlen).frame (F := [row 5 b (bs.map byteV)])).post ?_
  rintro u L' ⟨_, rfl, rfl⟩
  exact ⟨_, Imp.shutA (R := [sl 42 2 u ss.length (spans ss)]) ⟨b, v, ss⟩ ⟨hbs, hcn, rfl⟩ (by simp only [List.cons_append, List.nil_append]; (repeat first | exact Imp.refl _ | exact Imp.nil _ | (apply Imp.pull; focus ((repeat first | exact Del.head _ _ | apply Del.tail); done)) | apply Imp.drop)), ss, hbs, hcn, rfl, rfl⟩
theorem spansA (r : Nat) (bs : List UInt8) (lt : List Bool) :
    Sat Try.prog 29 [.pointer (some ⟨r, 0, none⟩)] [refA r bs lt] (fun u L' => ∃ ls, SpI lt lt.length ls ∧ bs.length = lt.length ∧ L' = [refA r bs lt, sl 42 2 u ls.length (spans ls)]) := by
  refine Sat.openA1 ?_
  rintro ⟨b, lb⟩ ⟨hbs, hlt⟩
  dsimp only
  refine (rspans r b lb bs lt hbs hlt).post ?_
  rintro u L' ⟨ls, hls, rfl⟩
  exact ⟨_, Imp.shutA (R := [sl 42 2 u ls.length (spans ls)]) ⟨b, lb⟩ ⟨hbs, hlt⟩ (by simp only [List.cons_append, List.nil_append]; (repeat first | exact Imp.refl _ | exact Imp.nil _ | (apply Imp.pull; focus ((repeat first | exact Del.head _ _ | apply Del.tail); done)) | apply Imp.drop)), ls, hls, hlt.symm, rfl⟩
theorem sizeA (p : Nat) (bs : List UInt8) (lt : List Bool) :
    Sat Try.prog 26 [.pointer (some ⟨p, 0, none⟩)] [memA p bs lt] (fun u L' => u = .int .i64 (bs.length : Nat) ∧ L' = [memA p bs lt]) := by
  refine Sat.openA1 ?_
  rintro ⟨b, v, ss⟩ ⟨hbs, hcn, rfl⟩
  dsimp only
  obtain ⟨hlen, hb⟩ := canon_facts hcn hbs
  refine ((size_spec p bs.length bs.length (some ⟨b, 0, none⟩) v).frame (F := [row 5 b (bs.map byteV), sl 42 2 v ss.length (spans ss)])).post ?_
  rintro u L' ⟨_, ⟨rfl, rfl⟩, rfl⟩
  exact ⟨_, Imp.shutA1 ⟨b, v, ss⟩ ⟨hbs, hcn, rfl⟩ (Imp.refl _), rfl, rfl⟩
theorem getA (q p at0 sz n : Nat) (wh : List UInt8) :
    Sat Try.prog 20 [.pointer (some ⟨q, 0, none⟩)] [poolA q p at0 sz wh n] (fun u L' => u = .tuple #[.int .u32 ((getE at0 sz wh).1.1 : Nat), .int .i64 ((getE at0 sz wh).1.2 : Nat)] ∧ L' = [poolA q p at0 sz (getE at0 sz wh).2 n]) := by
  refine Sat.openA1 ?_
  rintro wb hp
  unfold getE
  split
  · rename_i k hk
    obtain ⟨h1, h2⟩ := findIdx_some hk
    refine (get_ok q p wb at0 sz wh k h1 h2 hp.hc (Nat.le_trans hp.hn hp.hn2)).post ?_
    rintro u L' ⟨rfl, rfl⟩
    exact ⟨_, Imp.shutA1 wb (hp.set k 1) (by rw [List.length_set]; exact Imp.refl _), rfl, rfl⟩
  · rename_i hk
    refine (get_full q p wb at0 sz wh (findIdx_none hk) hp.hc).post ?_
    rintro u L' ⟨rfl, rfl⟩
    exact ⟨_, Imp.shutA1 wb hp (Imp.refl _), rfl, rfl⟩
theorem rgetA (q r at0 sz n : Nat) (wh : List UInt8) :
    Sat Try.prog 63 [.pointer (some ⟨q, 0, none⟩)] [rpoolA q r at0 sz wh n] (fun u L' => u = .tuple #[.int .u32 ((getE at0 sz wh).1.1 : Nat), .int .i64 ((getE at0 sz wh).1.2 : Nat)] ∧ L' = [rpoolA q r at0 sz (getE at0 sz wh).2 n]) := by
  refine Sat.openA1 ?_
  rintro wb hp
  unfold getE
  split
  · rename_i k hk
    obtain ⟨h1, h2⟩ := findIdx_some hk
    refine (rget_ok q r wb at0 sz wh (Nat.le_trans hp.hn hp.hn2) hp.hc k h1 h2).post ?_
    rintro u L' ⟨rfl, rfl⟩
    exact ⟨_, Imp.shutA1 wb (hp.set k 1) (by rw [List.length_set]; exact Imp.refl _), rfl, rfl⟩
  · rename_i hk
    refine (rget_full q r wb at0 sz wh (Nat.le_trans hp.hn hp.hn2) hp.hc (findIdx_none hk)).post ?_
    rintro u L' ⟨rfl, rfl⟩
    exact ⟨_, Imp.shutA1 wb hp (Imp.refl _), rfl, rfl⟩
theorem leftA (q p at0 sz n : Nat) (wh : List UInt8) : Sat Try.prog 21 [.pointer (some ⟨q, 0, none⟩)] [poolA q p at0 sz wh n] (fun u L' => u = .int .i64 (wh.count 0 : Nat) ∧ L' = [poolA q p at0 sz wh n]) := by
  refine Sat.openA1 ?_
  rintro wb hp
  refine (left_spec q p wb at0 sz wh hp.hc).post ?_
  rintro u L' ⟨rfl, rfl⟩
  exact ⟨_, Imp.shutA1 wb hp (Imp.refl _), rfl, rfl⟩
theorem rleftA (q r at0 sz n : Nat) (wh : List UInt8) : Sat Try.prog 30 [.pointer (some ⟨q, 0, none⟩)] [rpoolA q r at0 sz wh n] (fun u L' => u = .int .i64 (wh.count 0 : Nat) ∧ L' = [rpoolA q r at0 sz wh n]) := by
  refine Sat.openA1 ?_
  rintro wb hp
  refine (rleft q r wb at0 sz wh hp.hc).post ?_
  rintro u L' ⟨rfl, rfl⟩
  exact ⟨_, Imp.shutA1 wb hp (Imp.refl _), rfl, rfl⟩
theorem whoseA (q p at0 sz n at_ : Nat) (wh : List UInt8) (ha : at_ < 4294967296) : Sat Try.prog 35 [.pointer (some ⟨q, 0, none⟩), .int .u32 at_] [poolA q p at0 sz wh n] (fun u L' => u = .tuple #[byteV (whoseE at0 sz wh at_).1, .int .i64 ((whoseE at0 sz wh at_).2 : Nat)] ∧ L' = [poolA q p at0 sz wh n]) := by
  refine Sat.openA1 ?_
  rintro wb hp
  unfold whoseE
  split
  · rename_i hk
    refine (whose_bad q p wb at0 sz at_ wh hp.h0 hp.hz hp.hz2 hp.hc ha (findK_none hk)).post ?_
    rintro u L' ⟨rfl, rfl⟩
    exact ⟨_, Imp.shutA1 wb hp (Imp.refl _), rfl, rfl⟩
  · rename_i k hk
    obtain ⟨h1, h2⟩ := findK_some hk
    refine (whose_ok q p wb at0 sz at_ wh hp.h0 hp.hz hp.hz2 hp.hc ha k _ (wAt_eq h1) h2).post ?_
    rintro u L' ⟨rfl, rfl⟩
    exact ⟨_, Imp.shutA1 wb hp (Imp.refl _), rfl, rfl⟩
theorem rfindA (q r at0 sz n at_ : Nat) (wh : List UInt8) (ha : at_ < 4294967296) : Sat Try.prog 65 [.pointer (some ⟨q, 0, none⟩), .int .u32 at_] [rpoolA q r at0 sz wh n] (fun u L' => u = .int .i64 (match findK at0 sz wh.length at_ with | some k => (k : Int) | none => -1) ∧ L' = [rpoolA q r at0 sz wh n]) := by
  refine Sat.openA1 ?_
  rintro wb hp
  split
  · rename_i k hk
    obtain ⟨h1, h2⟩ := findK_some hk
    refine (rfind_ok q r wb at0 sz wh at_ hp.h0 hp.hz hp.hz2 hp.hc ha k h1 h2).post ?_
    rintro u L' ⟨rfl, rfl⟩
    exact ⟨_, Imp.shutA1 wb hp (Imp.refl _), rfl, rfl⟩
  · rename_i hk
    refine (rfind_bad q r wb at0 sz wh at_ hp.h0 hp.hz hp.hz2 hp.hc ha (findK_none hk)).post ?_
    rintro u L' ⟨rfl, rfl⟩
    exact ⟨_, Imp.shutA1 wb hp (Imp.refl _), rfl, rfl⟩
theorem pputA (q p at0 sz n at_ : Nat) (wh : List UInt8) (ha : at_ < 4294967296) : Sat Try.prog 22 [.pointer (some ⟨q, 0, none⟩), .int .u32 at_] [poolA q p at0 sz wh n] (fun u L' => u = .int .i64 ((pputE at0 sz wh at_).1 : Nat) ∧ L' = [poolA q p at0 sz (pputE at0 sz wh at_).2 n]) := by
  refine Sat.openA1 ?_
  rintro wb hp
  unfold pputE
  split
  · rename_i hk
    refine (pput_out q p wb at0 sz at_ wh hp.h0 hp.hz hp.hz2 hp.hc ha (findK_none hk)).post ?_
    rintro u L' ⟨rfl, rfl⟩
    exact ⟨_, Imp.shutA1 wb hp (Imp.refl _), rfl, rfl⟩
  · rename_i k hk
    obtain ⟨h1, h2⟩ := findK_some hk
    have hw := wAt_eq h1
    split
    · rename_i h3
      rw [h3] at hw
      refine (put_ok q p wb at0 sz at_ wh hp.h0 hp.hz hp.hz2 hp.hc ha k hw h2).post ?_
      rintro u L' ⟨rfl, rfl⟩
      exact ⟨_, Imp.shutA1 wb (hp.set k 0) (by rw [List.length_set]; exact Imp.refl _), rfl, rfl⟩
    · rename_i h3
      refine (pput_state q p wb at0 sz at_ wh hp.h0 hp.hz hp.hz2 hp.hc ha k _ hw h2 h3).post ?_
      rintro u L' ⟨rfl, rfl⟩
      exact ⟨_, Imp.shutA1 wb hp (Imp.refl _), rfl, rfl⟩
theorem rputA (q r at0 sz n at_ : Nat) (wh : List UInt8) (bs : List UInt8) (lt : List Bool) (ha : at_ < 4294967296) : Sat Try.prog 64 [.pointer (some ⟨q, 0, none⟩), .int .u32 at_, .int .u8 1, .int .u8 0] [rpoolA q r at0 sz wh n, refA r bs lt] (fun u L' => u = .int .i64 ((pputE at0 sz wh at_).1 : Nat) ∧ L' = [rpoolA q r at0 sz (pputE at0 sz wh at_).2 n, refA r bs lt]) := by
  refine Sat.openA (.tail (.head _ _)) ?_
  rintro ⟨b, lb⟩ ⟨hbs, hlt⟩
  dsimp only
  refine Sat.openA (.tail (.tail (.tail (.head _ _)))) ?_
  rintro wb hp
  refine Sat.imp (A' := [row 94 q [.pointer (some ⟨r, 0, none⟩), .int .u32 at0, .int .i64 sz, .slice (some ⟨wb, 0, none⟩) wh.length wh.length], row 5 wb (wh.map byteV)] ++ [row 63 r [.slice (some ⟨b, 0, none⟩) bs.length bs.length, .slice (some ⟨lb, 0, none⟩) lt.length lt.length], row 5 b (bs.map byteV), row 4 lb (lt.map boolV)]) (by simp only [List.cons_append, List.nil_append]; (repeat first | exact Imp.refl _ | exact Imp.nil _ | (apply Imp.pull; focus ((repeat first | exact Del.head _ _ | apply Del.tail); done)) | apply Imp.drop)) ?_
  have fin : ∀ wh', wh'.length = wh.length → PoolOk at0 sz wh' n → Imp ([row 94 q [.pointer (some ⟨r, 0, none⟩), .int .u32 at0, .int .i64 sz, .slice (some ⟨wb, 0, none⟩) wh.length wh.length], row 5 wb (wh'.map byteV)] ++ [row 63 r [.slice (some ⟨b, 0, none⟩) bs.length bs.length, .slice (some ⟨lb, 0, none⟩) lt.length lt.length], row 5 b (bs.map byteV), row 4 lb (lt.map boolV)]) [rpoolA q r at0 sz wh' n, refA r bs lt] := fun wh' hl hp' =>
    Imp.shutA wb hp' (by rw [hl]; refine Imp.trans ?_ (Imp.perm (L := [refA r bs lt, row 94 q [.pointer (some ⟨r, 0, none⟩), .int .u32 at0, .int .i64 sz, .slice (some ⟨wb, 0, none⟩) wh.length wh.length], row 5 wb (wh'.map byteV)]) ((List.Perm.swap _ _ _).trans ((List.Perm.swap _ _ _).cons _))); exact Imp.shutA ⟨b, lb⟩ ⟨hbs, hlt⟩ (by simp only [List.cons_append, List.nil_append]; (repeat first | exact Imp.refl _ | exact Imp.nil _ | (apply Imp.pull; focus ((repeat first | exact Del.head _ _ | apply Del.tail); done)) | apply Imp.drop)))
  unfold pputE
  split
  · rename_i hk
    refine ((rturn10_bad q r wb at0 sz at_ b lb wh bs lt hp.h0 hp.hz hp.hz2 hp.hc ha hbs hlt (findK_none hk)).frame).post ?_
    rintro u L' ⟨_, ⟨rfl, rfl⟩, rfl⟩
    exact ⟨_, fin wh rfl hp, rfl, rfl⟩
  · rename_i k hk
    obtain ⟨h1, h2⟩ := findK_some hk
    have hw := wAt_eq h1
    split
    · rename_i h3
      rw [h3] at hw
      refine ((rturn10_ok q r wb at0 sz at_ b lb wh bs lt hp.h0 hp.hz hp.hz2 hp.hc ha hbs hlt k hw h2).frame).post ?_
      rintro u L' ⟨_, ⟨rfl, rfl⟩, rfl⟩
      exact ⟨_, fin (wh.set k 0) (by simp) (hp.set k 0), rfl, rfl⟩
    · rename_i h3
      refine ((rturn10_state q r wb at0 sz at_ b lb wh bs lt hp.h0 hp.hz hp.hz2 hp.hc ha hbs hlt _ k hw h2 h3).frame).post ?_
      rintro u L' ⟨_, ⟨rfl, rfl⟩, rfl⟩
      exact ⟨_, fin wh rfl hp, rfl, rfl⟩
theorem giveA (q p at0 sz at_ : Nat) (wh : List UInt8) (bs : List UInt8) (lt : List Bool) (ha : at_ < 4294967296) : Sat Try.prog 23 [.pointer (some ⟨q, 0, none⟩), .int .u32 at_] [poolA q p at0 sz wh bs.length, memA p bs lt] (fun u L' => u = .int .i64 ((ptE 1 2 true 11 at0 sz wh lt at_).1 : Nat) ∧ L' = [poolA q p at0 sz (ptE 1 2 true 11 at0 sz wh lt at_).2.1 bs.length, memA p bs (ptE 1 2 true 11 at0 sz wh lt at_).2.2]) := by
  refine Sat.openA (.tail (.head _ _)) ?_
  rintro ⟨b, v, ss⟩ ⟨hbs, hcn, rfl⟩
  dsimp only
  obtain ⟨hlen, hb⟩ := canon_facts hcn hbs
  refine Sat.openA (.tail (.tail (.tail (.head _ _)))) ?_
  rintro wb hp
  refine Sat.imp (A' := [row 89 q [.pointer (some ⟨p, 0, none⟩), .int .u32 at0, .int .i64 sz, .slice (some ⟨wb, 0, none⟩) wh.length wh.length], row 5 wb (wh.map byteV), row 78 p [.slice (some ⟨b, 0, none⟩) bs.length bs.length, v], row 5 b (bs.map byteV), sl 42 2 v ss.length (spans ss)]) (by simp only [List.cons_append, List.nil_append]; (repeat first | exact Imp.refl _ | exact Imp.nil _ | (apply Imp.pull; focus ((repeat first | exact Del.head _ _ | apply Del.tail); done)) | apply Imp.drop)) ?_
  have fin : ∀ (wh' : List UInt8) (lt' : List Bool) (v' : Value) (ss' : List Spn), wh'.length = wh.length → PoolOk at0 sz wh' bs.length → Canon 0 bs.length ss' → lt' = flags bs.length ss' → Imp [row 89 q [.pointer (some ⟨p, 0, none⟩), .int .u32 at0, .int .i64 sz, .slice (some ⟨wb, 0, none⟩) wh.length wh.length], row 5 wb (wh'.map byteV), row 78 p [.slice (some ⟨b, 0, none⟩) bs.length bs.length, v'], row 5 b (bs.map byteV), sl 42 2 v' ss'.length (spans ss')] [poolA q p at0 sz wh' bs.length, memA p bs lt'] := fun wh' lt' v' ss' hl hp' hc' hlt' =>
    Imp.shutA wb hp' (by rw [hl]; refine Imp.trans ?_ (Imp.perm (L := [memA p bs lt', row 89 q [.pointer (some ⟨p, 0, none⟩), .int .u32 at0, .int .i64 sz, .slice (some ⟨wb, 0, none⟩) wh.length wh.length], row 5 wb (wh'.map byteV)]) ((List.Perm.swap _ _ _).trans ((List.Perm.swap _ _ _).cons _))); exact Imp.shutA ⟨b, v', ss'⟩ ⟨hbs, hc', hlt'⟩ (by simp only [List.cons_append, List.nil_append]; (repeat first | exact Imp.refl _ | exact Imp.nil _ | (apply Imp.pull; focus ((repeat first | exact Del.head _ _ | apply Del.tail); done)) | apply Imp.drop)))
  unfold ptE
  split
  · rename_i hk
    refine (give_out q p wb at0 sz at_ wh hp.h0 hp.hz hp.hz2 hp.hc ha (findK_none hk)).frame.post ?_
    rintro u L' ⟨_, ⟨rfl, rfl⟩, rfl⟩
    exact ⟨_, fin wh _ v ss rfl hp hcn rfl, rfl, rfl⟩
  · rename_i k hk
    obtain ⟨h1, h2⟩ := findK_some hk
    have hw := wAt_eq h1
    have hin := in_pool hp h1 h2
    split
    · rename_i h3
      rw [h3] at hw
      split
      · rename_i h4
        refine (give_ok q p wb b at0 sz at_ wh v bs ss hp.h0 hp.hz hp.hz2 hp.hc ha hbs hlen hb hin k hw h2 ((all_false hcn hin).1 h4) (hsort_of hcn)).post ?_
        rintro u L' ⟨v2, pre, post, rfl, he, g1, g2, rfl⟩
        obtain ⟨c1, c2⟩ := lend_plain hcn he g1 g2 hp.hz hin ((all_false hcn hin).1 h4)
        exact ⟨_, fin _ _ v2 _ (by simp) (hp.set k 2) c1 (lend_flags hin c2), rfl, rfl⟩
      · rename_i h4
        refine (give_bad q p wb b at0 sz at_ wh v bs ss hp.h0 hp.hz hp.hz2 hp.hc ha hbs hlen hb hin k hw h2 (Nat.pos_of_ne_zero fun h5 => h4 ((all_false hcn hin).2 h5))).post ?_
        rintro u L' ⟨rfl, rfl⟩
        exact ⟨_, fin wh _ v ss rfl hp hcn rfl, rfl, rfl⟩
    · rename_i h3
      refine (give_state q p wb at0 sz at_ wh hp.h0 hp.hz hp.hz2 hp.hc ha k _ hw h2 h3).frame.post ?_
      rintro u L' ⟨_, ⟨rfl, rfl⟩, rfl⟩
      exact ⟨_, fin wh _ v ss rfl hp hcn rfl, rfl, rfl⟩
theorem rgiveA (q r at0 sz at_ : Nat) (wh : List UInt8) (bs : List UInt8) (lt : List Bool) (ha : at_ < 4294967296) : Sat Try.prog 64 [.pointer (some ⟨q, 0, none⟩), .int .u32 at_, .int .u8 1, .int .u8 2] [rpoolA q r at0 sz wh bs.length, refA r bs lt] (fun u L' => u = .int .i64 ((ptE 1 2 true 11 at0 sz wh lt at_).1 : Nat) ∧ L' = [rpoolA q r at0 sz (ptE 1 2 true 11 at0 sz wh lt at_).2.1 bs.length, refA r bs (ptE 1 2 true 11 at0 sz wh lt at_).2.2]) := by
  refine Sat.openA (.tail (.head _ _)) ?_
  rintro ⟨b, lb⟩ ⟨hbs, hlt⟩
  dsimp only
  refine Sat.openA (.tail (.tail (.tail (.head _ _)))) ?_
  rintro wb hp
  refine Sat.imp (A' := [row 94 q [.pointer (some ⟨r, 0, none⟩), .int .u32 at0, .int .i64 sz, .slice (some ⟨wb, 0, none⟩) wh.length wh.length], row 5 wb (wh.map byteV)] ++ [row 63 r [.slice (some ⟨b, 0, none⟩) bs.length bs.length, .slice (some ⟨lb, 0, none⟩) lt.length lt.length], row 5 b (bs.map byteV), row 4 lb (lt.map boolV)]) (by simp only [List.cons_append, List.nil_append]; (repeat first | exact Imp.refl _ | exact Imp.nil _ | (apply Imp.pull; focus ((repeat first | exact Del.head _ _ | apply Del.tail); done)) | apply Imp.drop)) ?_
  have fin : ∀ (wh' : List UInt8) (lt' : List Bool), wh'.length = wh.length → PoolOk at0 sz wh' bs.length → lt'.length = lt.length → Imp ([row 94 q [.pointer (some ⟨r, 0, none⟩), .int .u32 at0, .int .i64 sz, .slice (some ⟨wb, 0, none⟩) wh.length wh.length], row 5 wb (wh'.map byteV)] ++ [row 63 r [.slice (some ⟨b, 0, none⟩) bs.length bs.length, .slice (some ⟨lb, 0, none⟩) lt.length lt.length], row 5 b (bs.map byteV), row 4 lb (lt'.map boolV)]) [rpoolA q r at0 sz wh' bs.length, refA r bs lt'] := fun wh' lt' hl hp' hl2 =>
    Imp.shutA wb hp' (by rw [hl]; refine Imp.trans ?_ (Imp.perm (L := [refA r bs lt', row 94 q [.pointer (some ⟨r, 0, none⟩), .int .u32 at0, .int .i64 sz, .slice (some ⟨wb, 0, none⟩) wh.length wh.length], row 5 wb (wh'.map byteV)]) ((List.Perm.swap _ _ _).trans ((List.Perm.swap _ _ _).cons _))); exact Imp.shutA ⟨b, lb⟩ ⟨hbs, by rw [hl2]; exact hlt⟩ (by dsimp only; rw [hl2]; simp only [List.cons_append, List.nil_append]; (repeat first | exact Imp.refl _ | exact Imp.nil _ | (apply Imp.pull; focus ((repeat first | exact Del.head _ _ | apply Del.tail); done)) | apply Imp.drop)))
  unfold ptE
  split
  · rename_i hk
    refine (rturn12_bad q r wb at0 sz at_ b lb wh bs lt hp.h0 hp.hz hp.hz2 hp.hc ha hbs hlt (findK_none hk)).frame.post ?_
    rintro u L' ⟨_, ⟨rfl, rfl⟩, rfl⟩
    exact ⟨_, fin wh _ rfl hp rfl, rfl, rfl⟩
  · rename_i k hk
    obtain ⟨h1, h2⟩ := findK_some hk
    have hw := wAt_eq h1
    have hin := in_pool hp h1 h2
    split
    · rename_i h3
      rw [h3] at hw
      split
      · rename_i h4
        refine (rturn12_ok q r wb at0 sz at_ b lb wh bs lt hp.h0 hp.hz hp.hz2 hp.hc ha hbs hlt k hw h2 hin h4).post ?_
        rintro u L' ⟨rfl, rfl⟩
        exact ⟨_, fin (wh.set k 2) (fillB lt at_ sz true) (by simp) (hp.set k 2) (fillB_len (by omega)), rfl, rfl⟩
      · rename_i h4
        refine (rturn12_ref q r wb at0 sz at_ b lb wh bs lt hp.h0 hp.hz hp.hz2 hp.hc ha hbs hlt k hw h2 hin (by simpa using h4)).post ?_
        rintro u L' ⟨rfl, rfl⟩
        exact ⟨_, fin wh _ rfl hp rfl, rfl, rfl⟩
    · rename_i h3
      refine (rturn12_state q r wb at0 sz at_ b lb wh bs lt hp.h0 hp.hz hp.hz2 hp.hc ha hbs hlt _ k hw h2 h3).frame.post ?_
      rintro u L' ⟨_, ⟨rfl, rfl⟩, rfl⟩
      exact ⟨_, fin wh _ rfl hp rfl, rfl, rfl⟩
theorem takeA (q p at0 sz at_ : Nat) (wh : List UInt8) (bs : List UInt8) (lt : List Bool) (ha : at_ < 4294967296) : Sat Try.prog 24 [.pointer (some ⟨q, 0, none⟩), .int .u32 at_] [poolA q p at0 sz wh bs.length, memA p bs lt] (fun u L' => u = .int .i64 ((ptE 2 1 false 12 at0 sz wh lt at_).1 : Nat) ∧ L' = [poolA q p at0 sz (ptE 2 1 false 12 at0 sz wh lt at_).2.1 bs.length, memA p bs (ptE 2 1 false 12 at0 sz wh lt at_).2.2]) := by
  refine Sat.openA (.tail (.head _ _)) ?_
  rintro ⟨b, v, ss⟩ ⟨hbs, hcn, rfl⟩
  dsimp only
  obtain ⟨hlen, hb⟩ := canon_facts hcn hbs
  refine Sat.openA (.tail (.tail (.tail (.head _ _)))) ?_
  rintro wb hp
  refine Sat.imp (A' := [row 89 q [.pointer (some ⟨p, 0, none⟩), .int .u32 at0, .int .i64 sz, .slice (some ⟨wb, 0, none⟩) wh.length wh.length], row 5 wb (wh.map byteV), row 78 p [.slice (some ⟨b, 0, none⟩) bs.length bs.length, v], row 5 b (bs.map byteV), sl 42 2 v ss.length (spans ss)]) (by simp only [List.cons_append, List.nil_append]; (repeat first | exact Imp.refl _ | exact Imp.nil _ | (apply Imp.pull; focus ((repeat first | exact Del.head _ _ | apply Del.tail); done)) | apply Imp.drop)) ?_
  have fin : ∀ (wh' : List UInt8) (lt' : List Bool) (v' : Value) (ss' : List Spn), wh'.length = wh.length → PoolOk at0 sz wh' bs.length → Canon 0 bs.length ss' → lt' = flags bs.length ss' → Imp [row 89 q [.pointer (some ⟨p, 0, none⟩), .int .u32 at0, .int .i64 sz, .slice (some ⟨wb, 0, none⟩) wh.length wh.length], row 5 wb (wh'.map byteV), row 78 p [.slice (some ⟨b, 0, none⟩) bs.length bs.length, v'], row 5 b (bs.map byteV), sl 42 2 v' ss'.length (spans ss')] [poolA q p at0 sz wh' bs.length, memA p bs lt'] := fun wh' lt' v' ss' hl hp' hc' hlt' =>
    Imp.shutA wb hp' (by rw [hl]; refine Imp.trans ?_ (Imp.perm (L := [memA p bs lt', row 89 q [.pointer (some ⟨p, 0, none⟩), .int .u32 at0, .int .i64 sz, .slice (some ⟨wb, 0, none⟩) wh.length wh.length], row 5 wb (wh'.map byteV)]) ((List.Perm.swap _ _ _).trans ((List.Perm.swap _ _ _).cons _))); exact Imp.shutA ⟨b, v', ss'⟩ ⟨hbs, hc', hlt'⟩ (by simp only [List.cons_append, List.nil_append]; (repeat first | exact Imp.refl _ | exact Imp.nil _ | (apply Imp.pull; focus ((repeat first | exact Del.head _ _ | apply Del.tail); done)) | apply Imp.drop)))
  unfold ptE
  split
  · rename_i hk
    refine (take_out q p wb at0 sz at_ wh hp.h0 hp.hz hp.hz2 hp.hc ha (findK_none hk)).frame.post ?_
    rintro u L' ⟨_, ⟨rfl, rfl⟩, rfl⟩
    exact ⟨_, fin wh _ v ss rfl hp hcn rfl, rfl, rfl⟩
  · rename_i k hk
    obtain ⟨h1, h2⟩ := findK_some hk
    have hw := wAt_eq h1
    have hin := in_pool hp h1 h2
    split
    · rename_i h3
      rw [h3] at hw
      split
      · rename_i h4
        refine (take_ok q p wb b at0 sz at_ wh v bs ss hp.h0 hp.hz hp.hz2 hp.hc ha hbs hlen hb hin k hw h2 ((all_true hcn hin).1 h4)).post ?_
        rintro u L' ⟨v2, rfl, rfl⟩
        obtain ⟨c1, c2⟩ := back_plain hp.hz hcn (hcn.one hp.hz ((shared_all hcn at_ sz).1 ((all_true hcn hin).1 h4)))
        exact ⟨_, fin _ _ v2 _ (by simp) (hp.set k 1) c1 (back_flags hin c2), rfl, rfl⟩
      · rename_i h4
        refine (take_bad q p wb b at0 sz at_ wh v bs ss hp.h0 hp.hz hp.hz2 hp.hc ha hbs hlen hb hin k hw h2 (Nat.lt_of_not_le fun h5 => h4 ((all_true hcn hin).2 h5))).post ?_
        rintro u L' ⟨rfl, rfl⟩
        exact ⟨_, fin wh _ v ss rfl hp hcn rfl, rfl, rfl⟩
    · rename_i h3
      refine (take_state q p wb at0 sz at_ wh hp.h0 hp.hz hp.hz2 hp.hc ha k _ hw h2 h3).frame.post ?_
      rintro u L' ⟨_, ⟨rfl, rfl⟩, rfl⟩
      exact ⟨_, fin wh _ v ss rfl hp hcn rfl, rfl, rfl⟩
theorem rtakeA (q r at0 sz at_ : Nat) (wh : List UInt8) (bs : List UInt8) (lt : List Bool) (ha : at_ < 4294967296) : Sat Try.prog 64 [.pointer (some ⟨q, 0, none⟩), .int .u32 at_, .int .u8 2, .int .u8 1] [rpoolA q r at0 sz wh bs.length, refA r bs lt] (fun u L' => u = .int .i64 ((ptE 2 1 false 12 at0 sz wh lt at_).1 : Nat) ∧ L' = [rpoolA q r at0 sz (ptE 2 1 false 12 at0 sz wh lt at_).2.1 bs.length, refA r bs (ptE 2 1 false 12 at0 sz wh lt at_).2.2]) := by
  refine Sat.openA (.tail (.head _ _)) ?_
  rintro ⟨b, lb⟩ ⟨hbs, hlt⟩
  dsimp only
  refine Sat.openA (.tail (.tail (.tail (.head _ _)))) ?_
  rintro wb hp
  refine Sat.imp (A' := [row 94 q [.pointer (some ⟨r, 0, none⟩), .int .u32 at0, .int .i64 sz, .slice (some ⟨wb, 0, none⟩) wh.length wh.length], row 5 wb (wh.map byteV)] ++ [row 63 r [.slice (some ⟨b, 0, none⟩) bs.length bs.length, .slice (some ⟨lb, 0, none⟩) lt.length lt.length], row 5 b (bs.map byteV), row 4 lb (lt.map boolV)]) (by simp only [List.cons_append, List.nil_append]; (repeat first | exact Imp.refl _ | exact Imp.nil _ | (apply Imp.pull; focus ((repeat first | exact Del.head _ _ | apply Del.tail); done)) | apply Imp.drop)) ?_
  have fin : ∀ (wh' : List UInt8) (lt' : List Bool), wh'.length = wh.length → PoolOk at0 sz wh' bs.length → lt'.length = lt.length → Imp ([row 94 q [.pointer (some ⟨r, 0, none⟩), .int .u32 at0, .int .i64 sz, .slice (some ⟨wb, 0, none⟩) wh.length wh.length], row 5 wb (wh'.map byteV)] ++ [row 63 r [.slice (some ⟨b, 0, none⟩) bs.length bs.length, .slice (some ⟨lb, 0, none⟩) lt.length lt.length], row 5 b (bs.map byteV), row 4 lb (lt'.map boolV)]) [rpoolA q r at0 sz wh' bs.length, refA r bs lt'] := fun wh' lt' hl hp' hl2 =>
    Imp.shutA wb hp' (by rw [hl]; refine Imp.trans ?_ (Imp.perm (L := [refA r bs lt', row 94 q [.pointer (some ⟨r, 0, none⟩), .int .u32 at0, .int .i64 sz, .slice (some ⟨wb, 0, none⟩) wh.length wh.length], row 5 wb (wh'.map byteV)]) ((List.Perm.swap _ _ _).trans ((List.Perm.swap _ _ _).cons _))); exact Imp.shutA ⟨b, lb⟩ ⟨hbs, by rw [hl2]; exact hlt⟩ (by dsimp only; rw [hl2]; simp only [List.cons_append, List.nil_append]; (repeat first | exact Imp.refl _ | exact Imp.nil _ | (apply Imp.pull; focus ((repeat first | exact Del.head _ _ | apply Del.tail); done)) | apply Imp.drop)))
  unfold ptE
  split
  · rename_i hk
    refine (rturn21_bad q r wb at0 sz at_ b lb wh bs lt hp.h0 hp.hz hp.hz2 hp.hc ha hbs hlt (findK_none hk)).frame.post ?_
    rintro u L' ⟨_, ⟨rfl, rfl⟩, rfl⟩
    exact ⟨_, fin wh _ rfl hp rfl, rfl, rfl⟩
  · rename_i k hk
    obtain ⟨h1, h2⟩ := findK_some hk
    have hw := wAt_eq h1
    have hin := in_pool hp h1 h2
    split
    · rename_i h3
      rw [h3] at hw
      split
      · rename_i h4
        refine (rturn21_ok q r wb at0 sz at_ b lb wh bs lt hp.h0 hp.hz hp.hz2 hp.hc ha hbs hlt k hw h2 hin h4).post ?_
        rintro u L' ⟨rfl, rfl⟩
        exact ⟨_, fin (wh.set k 1) (fillB lt at_ sz false) (by simp) (hp.set k 1) (fillB_len (by omega)), rfl, rfl⟩
      · rename_i h4
        refine (rturn21_ref q r wb at0 sz at_ b lb wh bs lt hp.h0 hp.hz hp.hz2 hp.hc ha hbs hlt k hw h2 hin (by simpa using h4)).post ?_
        rintro u L' ⟨rfl, rfl⟩
        exact ⟨_, fin wh _ rfl hp rfl, rfl, rfl⟩
    · rename_i h3
      refine (rturn21_state q r wb at0 sz at_ b lb wh bs lt hp.h0 hp.hz hp.hz2 hp.hc ha hbs hlt _ k hw h2 h3).frame.post ?_
      rintro u L' ⟨_, ⟨rfl, rfl⟩, rfl⟩
      exact ⟨_, fin wh _ rfl hp rfl, rfl, rfl⟩
end Go.Proofs.Ytpidkdkbgjnhlaa
