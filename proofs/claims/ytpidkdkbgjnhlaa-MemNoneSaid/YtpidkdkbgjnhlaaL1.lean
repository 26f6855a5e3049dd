/- Lemmas for the proofs of this seat: no statement of the seat is claimed here. -/
import Derived.Test.YtpidkdkbgjnhlaaPw
set_option linter.all false
namespace Go.Proofs.Ytpidkdkbgjnhlaa
open Go Pw
/-! The plain side of Mem: what is lent is spans (where, how many). -/
abbrev Spn := Nat × Nat
def spv (s : Spn) : List Value := [.int .u32 s.1, .int .u32 s.2]
theorem spv_len (s : Spn) : (spv s).length = 2 := rfl
abbrev spans (ss : List Spn) : List Value := ss.flatMap spv
def ovl (a l : Nat) (x : Spn) : Nat := min (x.1 + x.2) (a + l) - max x.1 a
def sharedN (ss : List Spn) (a l : Nat) : Nat := (ss.map (ovl a l)).sum
theorem sharedN_succ {ss : List Spn} {i : Nat} {s : Spn} (h : ss[i]? = some s) (a l : Nat) : sharedN (ss.take (i + 1)) a l = sharedN (ss.take i) a l + ovl a l s := by
  unfold sharedN
  rw [List.take_add_one, h]
  simp
theorem sharedN_all (ss : List Spn) (a l : Nat) : sharedN (ss.take ss.length) a l = sharedN ss a l := by rw [List.take_length]
theorem ovl_le (a l : Nat) (x : Spn) : ovl a l x ≤ l := by unfold ovl; omega
theorem sharedN_le (ss : List Spn) (a l : Nat) : sharedN ss a l ≤ ss.length * l := by
  unfold sharedN
  induction ss with
  | nil => simp
  | cons x ss ih =>
    have := ovl_le a l x
    rw [List.map_cons, List.sum_cons, List.length_cons, Nat.succ_mul]; omega
theorem sharedN_take_le (ss : List Spn) (i a l : Nat) : sharedN (ss.take i) a l ≤ i * l :=
  Nat.le_trans (sharedN_le _ a l) (Nat.mul_le_mul_right _ (by simp; omega))

theorem rd_part {bs : List UInt8} {a m : Nat} : ∀ i v, (((bs.drop a).take m).map byteV)[i]? = some v → (bs.map byteV)[(if m = 0 then 0 else a) + i]? = some v := fun i v hv => by
  by_cases h0 : m = 0
  · subst h0; simp at hv
  · rw [if_neg h0]
    simp only [List.getElem?_map, List.getElem?_take, List.getElem?_drop] at hv ⊢
    split at hv
    · exact hv
    · cases hv
def putB (bs : List UInt8) (a : Nat) (s : List UInt8) : List UInt8 := bs.take a ++ s ++ bs.drop (a + s.length)
theorem putB_len {bs : List UInt8} {a : Nat} {s : List UInt8} (h : a + s.length ≤ bs.length) : (putB bs a s).length = bs.length := by
  unfold putB; simp; omega
theorem copy_part {bs : List UInt8} {a : Nat} {s : List UInt8} (h : a + s.length ≤ bs.length) : setAll (bs.map byteV) (if s.length = 0 then 0 else a) ((s.map byteV).take (min s.length s.length * (0 + 1))) = (putB bs a s).map byteV := by
  rw [List.take_of_length_le (by simp)]
  by_cases h0 : s.length = 0
  · have : s = [] := List.eq_nil_of_length_eq_zero h0
    subst this
    simp [setAll, putB]
  · rw [if_neg h0, setAll_eq _ _ _ (by simpa using h)]
    simp [putB]
theorem one_bytes (l : List UInt8) : ∀ u ∈ l.map byteV, u.oneCell' = true := fun u hu => by
  obtain ⟨x, _, rfl⟩ := List.mem_map.1 hu; rfl
theorem len_part {bs : List UInt8} {a m : Nat} (h : a + m ≤ bs.length) : ((bs.drop a).take m).length = m := by simp; omega

def leN (l : List UInt8) : Nat := l.foldr (fun b x => b.toNat + 256 * x) 0
theorem leN_nil : leN [] = 0 := rfl
theorem leN_append (l m : List UInt8) : leN (l ++ m) = leN l + 256 ^ l.length * leN m := by
  induction l with
  | nil => simp [leN]
  | cons a l ih =>
    have h1 : leN (a :: l ++ m) = a.toNat + 256 * leN (l ++ m) := rfl
    have h2 : leN (a :: l) = a.toNat + 256 * leN l := rfl
    rw [h1, h2, ih, List.length_cons, Nat.pow_succ, Nat.mul_add, Nat.mul_comm (256 ^ l.length) 256, Nat.mul_assoc, Nat.add_assoc]
theorem leN_lt (l : List UInt8) : leN l < 256 ^ l.length := by
  induction l with
  | nil => simp [leN]
  | cons a l ih =>
    have h2 : leN (a :: l) = a.toNat + 256 * leN l := rfl
    have := a.toNat_lt
    rw [h2, List.length_cons, Nat.pow_succ]; omega
theorem leN_succ {l : List UInt8} {i w : Nat} {b : UInt8} (h : l[i]? = some b) (hw : 8 * i + 8 ≤ w) : leN (l.take (i + 1)) = leN (l.take i) ||| (b.toNat * 2 ^ (8 * i) % 2 ^ w) := by
  have hi : i < l.length := by
    rcases Nat.lt_or_ge i l.length with h1 | h1
    · exact h1
    · rw [List.getElem?_eq_none h1] at h; cases h
  have hlt := leN_lt (l.take i)
  have hl : (l.take i).length = i := by simp; omega
  rw [hl] at hlt
  have he : (256 : Nat) ^ i = 2 ^ (8 * i) := by rw [Nat.pow_mul]
  rw [List.take_add_one, h, leN_append, hl]
  have hb : leN (some b).toList = b.toNat := by simp [leN]
  have hbl := b.toNat_lt
  have hm : b.toNat * 2 ^ (8 * i) < 2 ^ w := by
    have h1 : b.toNat * 2 ^ (8 * i) < 2 ^ 8 * 2 ^ (8 * i) := Nat.mul_lt_mul_of_pos_right (by omega) (Nat.two_pow_pos _)
    rw [← Nat.pow_add] at h1
    exact Nat.lt_of_lt_of_le h1 (Nat.pow_le_pow_right (by omega) (by omega))
  rw [hb, Nat.mod_eq_of_lt hm, he]
  rw [he] at hlt
  rw [Nat.or_comm, Nat.mul_comm b.toNat, ← Nat.two_pow_add_eq_or_of_lt hlt]
  omega
def leB (x n : Nat) : List UInt8 := (List.range n).map fun i => UInt8.ofNat (x / 2 ^ (8 * i) % 256)
theorem leB_len (x n : Nat) : (leB x n).length = n := by simp [leB]
theorem leB_set {x n i : Nat} (h : i < n) : ((leB x i ++ List.replicate (n - i) 0).map byteV).set i (.int .u8 ((x / 2 ^ (8 * i) % 256 : Nat) : Int)) = (leB x (i + 1) ++ List.replicate (n - (i + 1)) 0).map byteV := by
  have h1 : (.int .u8 ((x / 2 ^ (8 * i) % 256 : Nat) : Int) : Value) = byteV (UInt8.ofNat (x / 2 ^ (8 * i) % 256)) := by
    simp [byteV]
  rw [h1, ← List.map_set]
  congr 1
  rw [show n - i = (n - (i + 1)) + 1 by omega, List.replicate_succ]
  rw [List.set_append_right _ _ (by rw [leB_len]; omega), leB_len, Nat.sub_self, List.set_cons_zero]
  simp [leB, List.range_succ]
theorem leB_zero (x n : Nat) : List.replicate n (.int .u8 0) = (leB x 0 ++ List.replicate (n - 0) 0).map byteV := by simp [leB, byteV]
theorem leB_full (x n : Nat) : (leB x n ++ List.replicate (n - n) 0).map byteV = (leB x n).map byteV := by simp
theorem leB_mod {x n w : Nat} (h : 8 * n ≤ w) : leB (x % 2 ^ w) n = leB x n := by
  unfold leB
  apply List.map_congr_left
  intro i hi
  have hi' : i < n := by simpa using hi
  have h8 : 2 ^ w = 2 ^ (8 * i) * 2 ^ (w - 8 * i) := by rw [← Nat.pow_add]; congr 1; omega
  rw [h8, Nat.mod_mul_right_div_self]
  have h9 : 2 ^ (w - 8 * i) = 256 * 2 ^ (w - 8 * i - 8) := by rw [show (256 : Nat) = 2 ^ 8 from rfl, ← Nat.pow_add]; congr 1; omega
  rw [h9, Nat.mod_mul_right_mod]

theorem one_spans (ss : List Spn) : ∀ u ∈ spans ss, u.oneCell' = true := fun u hu => by
  obtain ⟨s, _, h⟩ := List.mem_flatMap.1 hu
  simp only [spv, List.mem_cons, List.not_mem_nil, or_false] at h
  rcases h with rfl | rfl <;> rfl

def mergeN (a l : Nat) : List Spn → Nat × List Spn
  | [] => (l, [])
  | x :: t => if a + l = x.1 then (l + x.2, t) else (l, x :: t)
def mergeP (pre : List Spn) (a l : Nat) (post : List Spn) : List Spn :=
  match pre.getLast? with
  | some x => if x.1 + x.2 = a then pre.dropLast ++ (x.1, x.2 + l) :: post else pre ++ (a, l) :: post
  | none => pre ++ (a, l) :: post
theorem mergeP_snoc (q : List Spn) (x : Spn) (a l : Nat) (post : List Spn) : mergeP (q ++ [x]) a l post = if x.1 + x.2 = a then q ++ (x.1, x.2 + l) :: post else q ++ [x] ++ (a, l) :: post := by
  simp [mergeP]
theorem spans_set {ss : List Spn} {i : Nat} {x : Spn} (h : ss[i]? = some x) (m : Nat) : (spans ss).set (i * 2 + 1) (.int .u32 m) = spans (ss.set i (x.1, m)) := by
  induction ss generalizing i with
  | nil => simp at h
  | cons y t ih =>
    cases i with
    | zero => simp at h; subst h; simp [spv]
    | succ i =>
      have := ih (i := i) (by simpa using h)
      unfold spans at *
      rw [List.set_cons_succ, List.flatMap_cons, List.flatMap_cons, ← this, List.set_append_right _ _ (by simp [spv]; omega)]
      congr 2
      simp [spv]; omega
theorem spans_at {ss : List Spn} {i : Nat} {x : Spn} (h : ss[i]? = some x) : (spans ss)[i * 2 + 0]? = some (.int .u32 x.1) := flat_elem spv_len h 0 _ rfl
theorem spans_ln {ss : List Spn} {i : Nat} {x : Spn} (h : ss[i]? = some x) : (spans ss)[i * 2 + 1]? = some (.int .u32 x.2) := flat_elem spv_len h 1 _ rfl

theorem mergeN_len (a l : Nat) (post : List Spn) : (mergeN a l post).2.length ≤ post.length := by
  cases post with
  | nil => simp [mergeN]
  | cons x t =>
    simp only [mergeN]
    split <;> simp

theorem del_next {α : Type} (q : List α) (x y : α) (t : List α) : (q ++ x :: y :: t).take (q.length + 1) ++ (q ++ x :: y :: t).drop (q.length + 1 + 1) = q ++ x :: t := by
  induction q with
  | nil => simp
  | cons a q ih => simp only [List.cons_append, List.length_cons, List.take_succ_cons, List.drop_succ_cons]; rw [ih]

def backOne (a l : Nat) (x : Spn) : List Spn :=
  if x.1 ≤ a ∧ a + l ≤ x.1 + x.2 then (if x.1 < a then [(x.1, a - x.1)] else []) ++ (if a + l < x.1 + x.2 then [(a + l, x.1 + x.2 - (a + l))] else []) else [x]
abbrev backL (a l : Nat) (ss : List Spn) : List Spn := ss.flatMap (backOne a l)
theorem backOne_len (a l : Nat) (x : Spn) : (backOne a l x).length ≤ 2 := by
  unfold backOne
  split
  · split <;> split <;> simp
  · simp
theorem backL_len (a l : Nat) (ss : List Spn) : (backL a l ss).length ≤ 2 * ss.length := by
  induction ss with
  | nil => simp
  | cons x t ih =>
    have := backOne_len a l x
    rw [backL, List.flatMap_cons, List.length_append, List.length_cons]; unfold backL at ih; omega
theorem backL_succ {ss : List Spn} {i : Nat} {s : Spn} (h : ss[i]? = some s) (a l : Nat) : backL a l (ss.take (i + 1)) = backL a l (ss.take i) ++ backOne a l s := by
  rw [List.take_add_one, h]; simp
theorem spans_snoc (acc : List Spn) (x y : Nat) : spans acc ++ [.int .u32 x, .int .u32 y] = spans (acc ++ [(x, y)]) := by simp [spv]
theorem len_snoc (acc : List Spn) (x y : Nat) : (acc ++ [(x, y)]).length = acc.length + 1 := by simp
end Go.Proofs.Ytpidkdkbgjnhlaa
