/- Lemmas for the proofs of this seat: no statement of the seat is claimed here. -/
import Derived.Test.YtpidkdkbgjnhlaaW15
set_option linter.all false
namespace Go.Proofs.Ytpidkdkbgjnhlaa
open Go Pw
set_option maxHeartbeats 1000000
theorem flags_nil (n : Nat) : flags n [] = List.replicate n false := by
  refine (flags_ext (by simp) fun k hk => ?_).symm
  rw [List.getElem?_replicate, if_pos hk]; simp [inS_nil]
theorem flags_uniq {n : Nat} {ss tt : List Spn} (h : flags n ss = flags n tt) (hs : Canon 0 n ss) (ht : Canon 0 n tt) : ss = tt := by
  refine hs.uniq ht fun k => ?_
  rcases Nat.lt_or_ge k n with hk | hk
  · have h1 := flags_get (ss := ss) hk
    rw [h, flags_get hk] at h1
    have h2 : decide (inS tt k) = decide (inS ss k) := Option.some.inj h1
    constructor
    · intro hh; rw [decide_eq_true hh] at h2; exact of_decide_eq_true h2
    · intro hh; rw [decide_eq_true hh] at h2; exact of_decide_eq_true h2.symm
  · constructor
    · intro hh; have := (hs.inS_ge hh).2; omega
    · intro hh; have := (ht.inS_ge hh).2; omega
theorem newA (n : Nat) (h1 : 1 ≤ n) (h2 : n ≤ 1048576) : Sat Try.prog 9 [.int .i64 n] [] (fun u L' => ∃ p, u = .tuple #[.pointer (some ⟨p, 0, none⟩), .int .i64 0] ∧ L' = [memA p (List.replicate n 0) (List.replicate n false)]) := by
  refine (new_ok n h1 h2).post ?_
  rintro u L' ⟨p, b, rfl, rfl⟩
  refine ⟨_, Imp.shutA1 ⟨b, .slice none 0 0, []⟩ ⟨by rw [List.length_replicate]; exact h2, trivial, by rw [List.length_replicate, flags_nil]⟩ ?_, p, rfl, rfl⟩
  rw [List.length_replicate, List.map_replicate]
  refine Imp.trans (L' := [sl 42 2 (.slice none 0 0) 0 [], row 78 p [.slice (some ⟨b, 0, none⟩) n n, .slice none 0 0], row 5 b (List.replicate n (.int .u8 0))]) (Imp.slN (Imp.refl _)) ?_
  (repeat first | exact Imp.refl _ | exact Imp.nil _ | (apply Imp.pull; focus ((repeat first | exact Del.head _ _ | apply Del.tail); done)) | apply Imp.drop)
theorem rnewA (n : Nat) (h1 : 1 ≤ n) (h2 : n ≤ 1048576) : Sat Try.prog 25 [.int .i64 n] [] (fun u L' => ∃ r, u = .pointer (some ⟨r, 0, none⟩) ∧ L' = [refA r (List.replicate n 0) (List.replicate n false)]) := by
  refine (rnew_ok n h1 h2).post ?_
  rintro u L' ⟨r, b, lb, rfl, rfl⟩
  refine ⟨_, Imp.shutA1 ⟨b, lb⟩ ⟨by rw [List.length_replicate]; exact h2, by simp⟩ ?_, r, rfl, rfl⟩
  rw [List.length_replicate, List.length_replicate]
  exact Imp.refl _
/-- What a pool is answered that may not be; 0: it may. -/
def npE (n at_ : Nat) (s t : Int) : Nat := if s < 1 ∨ t < 1 ∨ 256 < t then 2 else if (n : Int) < s ∨ (n : Int) < at_ + s * t then 10 else 0
theorem npE_ok {n at_ : Nat} {s t : Int} (h : npE n at_ s t = 0) : ∃ a b : Nat, s = a ∧ t = b ∧ 1 ≤ a ∧ 1 ≤ b ∧ b ≤ 256 ∧ a ≤ n ∧ at_ + a * b ≤ n := by
  unfold npE at h
  split at h
  · cases h
  · split at h
    · cases h
    · obtain ⟨a, rfl⟩ := Int.eq_ofNat_of_zero_le (show 0 ≤ s by omega)
      obtain ⟨b, rfl⟩ := Int.eq_ofNat_of_zero_le (show 0 ≤ t by omega)
      exact ⟨a, b, rfl, rfl, by omega, by omega, by omega, by omega, by
        have : ((a * b : Nat) : Int) = (a : Int) * b := Int.natCast_mul a b
        omega⟩
theorem npE_bad {n at_ : Nat} {s t : Int} (h : npE n at_ s t ≠ 0) : (npE n at_ s t = 2 ∧ (s < 1 ∨ t < 1 ∨ 256 < t)) ∨ (npE n at_ s t = 10 ∧ 1 ≤ s ∧ 1 ≤ t ∧ t ≤ 256 ∧ ((n : Int) < s ∨ ∃ a b : Nat, s = a ∧ t = b ∧ 1 ≤ a ∧ 1 ≤ b ∧ b ≤ 256 ∧ a ≤ n ∧ n < at_ + a * b)) := by
  unfold npE at h ⊢
  split
  · rename_i h1; exact .inl ⟨rfl, h1⟩
  · rename_i h1
    rw [if_neg h1] at h
    split
    · rename_i h2
      refine .inr ⟨rfl, by omega, by omega, by omega, ?_⟩
      rcases Int.lt_or_le (n : Int) s with h3 | h3
      · exact .inl h3
      · right
        obtain ⟨a, rfl⟩ := Int.eq_ofNat_of_zero_le (show 0 ≤ s by omega)
        obtain ⟨b, rfl⟩ := Int.eq_ofNat_of_zero_le (show 0 ≤ t by omega)
        refine ⟨a, b, rfl, rfl, by omega, by omega, by omega, by omega, ?_⟩
        have : ((a * b : Nat) : Int) = (a : Int) * b := Int.natCast_mul a b
        omega
    · rename_i h2; rw [if_neg h2] at h; exact absurd rfl h
theorem newpool_okA (p at_ : Nat) (s t : Int) (bs : List UInt8) (lt : List Bool) (ha : at_ < 4294967296) (h : npE bs.length at_ s t = 0) :
    Sat Try.prog 19 [.pointer (some ⟨p, 0, none⟩), .int .u32 at_, .int .i64 s, .int .i64 t] [memA p bs lt] (fun u L' => ∃ q, u = .tuple #[.pointer (some ⟨q, 0, none⟩), .int .i64 0] ∧ L' = [memA p bs lt, poolA q p at_ s.toNat (List.replicate t.toNat 0) bs.length]) := by
  obtain ⟨a, b', rfl, rfl, h1, h2, h3, h4, h5⟩ := npE_ok h
  refine Sat.openA1 ?_
  rintro ⟨b, v, ss⟩ ⟨hbs, hcn, rfl⟩
  dsimp only
  refine ((newpool_ok p bs.length b at_ a b' v hbs ha h1 h2 h3 (by omega) h4 h5).frame (F := [row 5 b (bs.map byteV), sl 42 2 v ss.length (spans ss)])).post ?_
  rintro u L' ⟨_, ⟨q, wb, rfl, rfl⟩, rfl⟩
  refine ⟨_, ?_, q, rfl, rfl⟩
  refine Imp.shutA ⟨b, v, ss⟩ ⟨hbs, hcn, rfl⟩ ?_
  refine Imp.trans ?_ (Imp.perm (L := [poolA q p at_ a (List.replicate b' 0) bs.length, row 78 p [.slice (some ⟨b, 0, none⟩) bs.length bs.length, v], row 5 b (bs.map byteV), sl 42 2 v ss.length (spans ss)]) (List.perm_append_comm (l₁ := [poolA q p at_ a (List.replicate b' 0) bs.length])))
  refine Imp.shutA wb ⟨ha, h1, by omega, by simpa using h3, by rw [List.length_replicate, Nat.mul_comm]; exact h5, hbs⟩ ?_
  simp only [Int.toNat_natCast, List.length_replicate, List.cons_append, List.nil_append]
  (repeat first | exact Imp.refl _ | exact Imp.nil _ | (apply Imp.pull; focus ((repeat first | exact Del.head _ _ | apply Del.tail); done)) | apply Imp.drop)
theorem newpool_badA (p at_ : Nat) (s t : Int) (bs : List UInt8) (lt : List Bool) (ha : at_ < 4294967296) (h : npE bs.length at_ s t ≠ 0) :
    Sat Try.prog 19 [.pointer (some ⟨p, 0, none⟩), .int .u32 at_, .int .i64 s, .int .i64 t] [memA p bs lt] (fun u L' => u = .tuple #[.pointer none, .int .i64 (npE bs.length at_ s t : Nat)] ∧ L' = [memA p bs lt]) := by
  refine Sat.openA1 ?_
  rintro ⟨b, v, ss⟩ ⟨hbs, hcn, rfl⟩
  dsimp only
  rcases npE_bad h with ⟨he, h1⟩ | ⟨he, h1, h2, h3, h4 | ⟨a, b', rfl, rfl, h4, h5, h6, h7, h8⟩⟩
  · rw [he]
    refine ((newpool_arg p bs.length b at_ v s t h1).frame (F := [row 5 b (bs.map byteV), sl 42 2 v ss.length (spans ss)])).post ?_
    rintro u L' ⟨_, ⟨rfl, rfl⟩, rfl⟩
    exact ⟨_, Imp.shutA1 ⟨b, v, ss⟩ ⟨hbs, hcn, rfl⟩ (Imp.refl _), rfl, rfl⟩
  · rw [he]
    refine ((newpool_big p bs.length b at_ v s t h1 h2 h3 h4).frame (F := [row 5 b (bs.map byteV), sl 42 2 v ss.length (spans ss)])).post ?_
    rintro u L' ⟨_, ⟨rfl, rfl⟩, rfl⟩
    exact ⟨_, Imp.shutA1 ⟨b, v, ss⟩ ⟨hbs, hcn, rfl⟩ (Imp.refl _), rfl, rfl⟩
  · rw [he]
    refine ((newpool_out p bs.length b at_ a b' v hbs ha h4 h5 h6 (by omega) h7 h8).frame (F := [row 5 b (bs.map byteV), sl 42 2 v ss.length (spans ss)])).post ?_
    rintro u L' ⟨_, ⟨rfl, rfl⟩, rfl⟩
    exact ⟨_, Imp.shutA1 ⟨b, v, ss⟩ ⟨hbs, hcn, rfl⟩ (Imp.refl _), rfl, rfl⟩
theorem rnewpool_okA (r at_ : Nat) (s t : Int) (bs : List UInt8) (lt : List Bool) (ha : at_ < 4294967296) (h : npE bs.length at_ s t = 0) :
    Sat Try.prog 27 [.pointer (some ⟨r, 0, none⟩), .int .u32 at_, .int .i64 s, .int .i64 t] [refA r bs lt] (fun u L' => ∃ q, u = .tuple #[.pointer (some ⟨q, 0, none⟩), .int .i64 0] ∧ L' = [refA r bs lt, rpoolA q r at_ s.toNat (List.replicate t.toNat 0) bs.length]) := by
  obtain ⟨a, b', rfl, rfl, h1, h2, h3, h4, h5⟩ := npE_ok h
  refine Sat.openA1 ?_
  rintro ⟨b, lb⟩ ⟨hbs, hlt⟩
  dsimp only
  refine ((rnewpool_ok r bs.length b at_ a b' _ hbs ha h1 h2 h3 (by omega) h4 h5).frame (F := [row 5 b (bs.map byteV), row 4 lb (lt.map boolV)])).post ?_
  rintro u L' ⟨_, ⟨q, wb, rfl, rfl⟩, rfl⟩
  refine ⟨_, ?_, q, rfl, rfl⟩
  refine Imp.shutA ⟨b, lb⟩ ⟨hbs, hlt⟩ ?_
  refine Imp.trans ?_ (Imp.perm (L := [rpoolA q r at_ a (List.replicate b' 0) bs.length, row 63 r [.slice (some ⟨b, 0, none⟩) bs.length bs.length, .slice (some ⟨lb, 0, none⟩) lt.length lt.length], row 5 b (bs.map byteV), row 4 lb (lt.map boolV)]) (List.perm_append_comm (l₁ := [rpoolA q r at_ a (List.replicate b' 0) bs.length])))
  refine Imp.shutA wb ⟨ha, h1, by omega, by simpa using h3, by rw [List.length_replicate, Nat.mul_comm]; exact h5, hbs⟩ ?_
  simp only [Int.toNat_natCast, List.length_replicate, List.cons_append, List.nil_append]
  (repeat first | exact Imp.refl _ | exact Imp.nil _ | (apply Imp.pull; focus ((repeat first | exact Del.head _ _ | apply Del.tail); done)) | apply Imp.drop)
theorem rnewpool_badA (r at_ : Nat) (s t : Int) (bs : List UInt8) (lt : List Bool) (ha : at_ < 4294967296) (h : npE bs.length at_ s t ≠ 0) :
    Sat Try.prog 27 [.pointer (some ⟨r, 0, none⟩), .int .u32 at_, .int .i64 s, .int .i64 t] [refA r bs lt] (fun u L' => u = .tuple #[.pointer none, .int .i64 (npE bs.length at_ s t : Nat)] ∧ L' = [refA r bs lt]) := by
  refine Sat.openA1 ?_
  rintro ⟨b, lb⟩ ⟨hbs, hlt⟩
  dsimp only
  rcases npE_bad h with ⟨he, h1⟩ | ⟨he, h1, h2, h3, h4 | ⟨a, b', rfl, rfl, h4, h5, h6, h7, h8⟩⟩
  · rw [he]
    refine ((rnewpool_arg r bs.length b at_ _ s t h1).frame (F := [row 5 b (bs.map byteV), row 4 lb (lt.map boolV)])).post ?_
    rintro u L' ⟨_, ⟨rfl, rfl⟩, rfl⟩
    exact ⟨_, Imp.shutA1 ⟨b, lb⟩ ⟨hbs, hlt⟩ (Imp.refl _), rfl, rfl⟩
  · rw [he]
    refine ((rnewpool_big r bs.length b at_ _ s t h1 h2 h3 h4).frame (F := [row 5 b (bs.map byteV), row 4 lb (lt.map boolV)])).post ?_
    rintro u L' ⟨_, ⟨rfl, rfl⟩, rfl⟩
    exact ⟨_, Imp.shutA1 ⟨b, lb⟩ ⟨hbs, hlt⟩ (Imp.refl _), rfl, rfl⟩
  · rw [he]
    refine ((rnewpool_out r bs.length b at_ a b' _ hbs ha h4 h5 h6 (by omega) h7 h8).frame (F := [row 5 b (bs.map byteV), row 4 lb (lt.map boolV)])).post ?_
    rintro u L' ⟨_, ⟨rfl, rfl⟩, rfl⟩
    exact ⟨_, Imp.shutA1 ⟨b, lb⟩ ⟨hbs, hlt⟩ (Imp.refl _), rfl, rfl⟩
/-! The known run. -/
def kB0 : List UInt8 := List.replicate 16 0
def kF0 : List Bool := List.replicate 16 false
def kB1 : List UInt8 := [0, 0, 2, 1, 0, 0, 0, 0, 0, 0, 0, 0, 0, 0, 0, 0]
def kB2 : List UInt8 := [0, 0, 2, 1, 120, 0, 0, 0, 0, 0, 0, 0, 0, 0, 0, 0]
def kF1 : List Bool := [false, false, false, false, true, true, true, true, true, true, true, true, false, false, false, false]
def kF2 : List Bool := [false, false, false, false, true, true, false, false, true, true, true, true, false, false, false, false]
theorem k_new : Sat Try.prog 9 [.int .i64 16] [] (fun u L' => ∃ p, u = .tuple #[.pointer (some ⟨p, 0, none⟩), .int .i64 0] ∧ L' = [memA p kB0 kF0]) := newA 16 (by decide) (by decide)
theorem k_put (p : Nat) : Sat Try.prog 37 [.pointer (some ⟨p, 0, none⟩), .int .u32 2, .int .u32 258] [memA p kB0 kF0] (fun u L' => u = .int .i64 0 ∧ L' = [memA p kB1 kF0]) := by
  have := put32A p 2 258 kB0 kF0 (by decide) (by decide)
  rwa [show writeE kB0 kF0 2 (leB 258 4) false 11 = (0, kB1) by decide] at this
theorem k_u16 (p : Nat) : Sat Try.prog 32 [.pointer (some ⟨p, 0, none⟩), .int .u32 2] [memA p kB1 kF0] (fun u L' => u = .tuple #[.int .u16 258, .int .i64 0] ∧ L' = [memA p kB1 kF0]) := by
  have := u16A p 2 kB1 kF0 (by decide)
  rwa [show numE kB1 2 (16 / 8) = (258, 0) by decide] at this
theorem k_lend (p : Nat) : Sat Try.prog 14 [.pointer (some ⟨p, 0, none⟩), .agg #[.int .u32 4, .int .u32 8]] [memA p kB1 kF0] (fun u L' => u = .int .i64 0 ∧ L' = [memA p kB1 kF1]) := by
  have := lendA p 4 8 kB1 kF0 (by decide) (by decide)
  rwa [show turnE kF0 4 8 true 11 = (0, kF1) by decide] at this
theorem k_write (p : Nat) : Sat Try.prog 12 [.pointer (some ⟨p, 0, none⟩), .int .u32 3, str [97, 98]] [memA p kB1 kF1] (fun u L' => u = .int .i64 11 ∧ L' = [memA p kB1 kF1]) := by
  have := writeA p 3 [97, 98] kB1 kF1 (by decide) (by decide)
  rwa [show writeE kB1 kF1 3 [97, 98] false 11 = (11, kB1) by decide] at this
theorem k_device (p : Nat) : Sat Try.prog 16 [.pointer (some ⟨p, 0, none⟩), .int .u32 4, str [120]] [memA p kB1 kF1] (fun u L' => u = .int .i64 0 ∧ L' = [memA p kB2 kF1]) := by
  have := deviceA p 4 [120] kB1 kF1 (by decide) (by decide)
  rwa [show writeE kB1 kF1 4 [120] true 12 = (0, kB2) by decide] at this
theorem k_back (p : Nat) : Sat Try.prog 15 [.pointer (some ⟨p, 0, none⟩), .agg #[.int .u32 6, .int .u32 2]] [memA p kB2 kF1] (fun u L' => u = .int .i64 0 ∧ L' = [memA p kB2 kF2]) := by
  have := backA p 6 2 kB2 kF1 (by decide) (by decide)
  rwa [show turnE kF1 6 2 false 12 = (0, kF2) by decide] at this
theorem k_lent (p : Nat) : Sat Try.prog 11 [.pointer (some ⟨p, 0, none⟩)] [memA p kB2 kF2] (fun u L' => L' = [memA p kB2 kF2, sl 42 2 u 2 (spans [(4, 2), (8, 4)])]) := by
  refine (lentA p kB2 kF2).post ?_
  rintro u L' ⟨ss, _, h2, h3, rfl⟩
  have h4 : ss = [(4, 2), (8, 4)] := flags_uniq (n := 16) (by rw [← show kF2 = flags 16 [(4, 2), (8, 4)] by decide]; exact h3.symm) h2 ⟨by decide, by decide, by decide, by decide, by decide, by decide, trivial⟩
  subst h4
  exact ⟨_, Imp.refl _, rfl⟩
theorem k_pool (p : Nat) : Sat Try.prog 19 [.pointer (some ⟨p, 0, none⟩), .int .u32 12, .int .i64 2, .int .i64 2] [memA p kB2 kF2] (fun u L' => ∃ q, u = .tuple #[.pointer (some ⟨q, 0, none⟩), .int .i64 0] ∧ L' = [memA p kB2 kF2, poolA q p 12 2 [0, 0] 16]) := newpool_okA p 12 2 2 kB2 kF2 (by decide) (by decide)
theorem k_get (p q : Nat) : Sat Try.prog 20 [.pointer (some ⟨q, 0, none⟩)] [poolA q p 12 2 [0, 0] 16] (fun u L' => u = .tuple #[.int .u32 12, .int .i64 0] ∧ L' = [poolA q p 12 2 [1, 0] 16]) := by
  have := getA q p 12 2 16 [0, 0]
  rwa [show getE 12 2 [0, 0] = ((12, 0), [1, 0]) by decide] at this
theorem k_left (p q : Nat) : Sat Try.prog 21 [.pointer (some ⟨q, 0, none⟩)] [poolA q p 12 2 [1, 0] 16] (fun u L' => u = .int .i64 1 ∧ L' = [poolA q p 12 2 [1, 0] 16]) := leftA q p 12 2 16 [1, 0]
end Go.Proofs.Ytpidkdkbgjnhlaa
