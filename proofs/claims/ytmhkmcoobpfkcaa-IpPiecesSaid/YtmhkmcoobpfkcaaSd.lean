/- Lemmas for the proofs of this seat: no statement of the seat is claimed here. -/
import Derived.Test.YtmhkmcoobpfkcaaKo
import Derived.Test.YtmhkmcoobpfkcaaKm
import Derived.Test.YtmhkmcoobpfkcaaKp
set_option linter.all false

namespace Go.Proofs.Ytmhkmcoobpfkcaa
open Go Pw
set_option maxRecDepth 20000
set_option maxHeartbeats 4000000
set_option synthInstance.maxHeartbeats 400000
set_option synthInstance.maxSize 4000
set_option maxHeartbeats 4000000

/-- Whose own: by an even number. -/
def evK (k : Ky) : Bool := decide (k.2.2.2 % 2 = 0)
def evS (S : List PSet) : List PSet := S.filter fun x => evK x.key
def tilC (S : List PSet) (c : Nat) : Prop := ∀ x ∈ S, x.til = c
theorem exp_same {S : List PSet} {c now : Nat} (h : tilC S c) (hn : now < c) : expE S now = S := by
  unfold expE
  rw [List.filter_eq_self]
  intro x hx
  rw [h x hx]; simpa using hn
theorem tilC.ev {S : List PSet} {c : Nat} (h : tilC S c) : tilC (evS S) c := fun x hx => h x (List.mem_filter.1 hx).1
theorem find_ev {S : List PSet} {k : Ky} (hk : evK k = true) : findS (evS S) k = findS S k := by
  unfold findS evS
  rw [List.find?_filter]
  congr 1
  funext x
  by_cases h : x.key = k
  · simp [h, hk]
  · simp [h]
theorem del_ev {S : List PSet} {k : Ky} : evS (delS S k) = delS (evS S) k := by
  unfold evS delS
  rw [List.filter_filter, List.filter_filter]
  congr 1
  funext x
  exact Bool.and_comm _ _
theorem del_odd {S : List PSet} {k : Ky} (hk : evK k = false) : evS (delS S k) = evS S := by
  unfold evS delS
  rw [List.filter_filter]
  congr 1
  funext x
  by_cases h : x.key = k
  · simp [h, hk]
  · simp [h]
theorem put_ev {S : List PSet} {k : Ky} {y : PSet} (hk : evK k = true) (hy : y.key = k) : evS (putS S k y) = putS (evS S) k y := by
  have hf := find_ev (S := S) hk
  unfold putS
  rw [hf]
  cases findS S k with
  | some _ =>
    dsimp only
    unfold evS
    rw [List.filter_map]
    congr 1
    refine List.filter_congr fun x _ => ?_
    by_cases h : x.key = k
    · simp [h, hy]
    · simp [h]
  | none =>
    dsimp only
    unfold evS
    rw [List.filter_append]
    congr 1
    simp [hy, hk]
theorem put_odd {S : List PSet} {k : Ky} {y : PSet} (hk : evK k = false) (hy : y.key = k) : evS (putS S k y) = evS S := by
  unfold putS
  cases findS S k with
  | some _ =>
    dsimp only
    unfold evS
    rw [List.filter_map]
    have e : (S.filter ((fun x => evK x.key) ∘ fun x => if x.key = k then y else x)) = S.filter fun x => evK x.key := by
      refine List.filter_congr fun x _ => ?_
      by_cases h : x.key = k
      · simp [h, hy]
      · simp [h]
    rw [e]
    rw [List.map_congr_left (g := id)]
    · simp
    · intro x hx
      have := (List.mem_filter.1 hx).2
      by_cases h : x.key = k
      · rw [h, hk] at this; cases this
      · simp [h]
  | none =>
    dsimp only
    unfold evS
    rw [List.filter_append]
    simp [hy, hk]
theorem fin_ev {S : List PSet} {k : Ky} {x : PSet} {p : Pkt} (hk : evK k = true) (hx : ¬ (addE x p).2 ≠ 0 → (addE x p).1.key = k) : evS (finS S k x p).1 = (finS (evS S) k x p).1 ∧ (finS S k x p).2 = (finS (evS S) k x p).2 := by
  by_cases h : (addE x p).2 ≠ 0
  · rw [fin_err h, fin_err h]; exact ⟨del_ev, rfl⟩
  · cases hw : wholeE (addE x p).1.l with
    | some w => rw [fin_yes h hw, fin_yes h hw]; exact ⟨del_ev, rfl⟩
    | none => rw [fin_no h hw, fin_no h hw]; exact ⟨put_ev hk (hx h), rfl⟩
theorem fin_odd {S : List PSet} {k : Ky} {x : PSet} {p : Pkt} (hk : evK k = false) (hx : ¬ (addE x p).2 ≠ 0 → (addE x p).1.key = k) : evS (finS S k x p).1 = evS S := by
  by_cases h : (addE x p).2 ≠ 0
  · rw [fin_err h]; exact del_odd hk
  · cases hw : wholeE (addE x p).1.l with
    | some w => rw [fin_yes h hw]; exact del_odd hk
    | none => rw [fin_no h hw]; exact put_odd hk (hx h)
theorem add_key_old {x : PSet} {p : Pkt} (hx : x.ok) (hk : x.key = keyE p) (h : ¬ (addE x p).2 ≠ 0) : (addE x p).1.key = keyE p :=
  add_ky (fun q hq => (hx.ky q hq).trans hk) h _ (gt0_mem (add_ne h))
theorem add_key_new {t : Nat} {p : Pkt} (h : ¬ (addE ⟨[], t⟩ p).2 ≠ 0) : (addE ⟨[], t⟩ p).1.key = keyE p :=
  add_ky (fun _ h => (List.not_mem_nil h).elim) h _ (gt0_mem (add_ne h))
theorem apart_other {most life now c : Nat} {S : List PSet} {p : Pkt} (hS : SsOk S) (ht : tilC S c) (hn : now < c) (hk : evK (keyE p) = false) : evS (takeE most life S p now).1 = evS S := by
  have hE := exp_same ht hn
  unfold takeE
  rw [hE]
  split
  · rfl
  · split
    · rfl
    · split
      · exact del_odd hk
      · cases hf : findS S (keyE p) with
        | some x => exact fin_odd hk (add_key_old (hS.all x (find_mem hf).1) (find_mem hf).2)
        | none =>
          dsimp only
          split
          · rfl
          · exact fin_odd hk add_key_new
theorem apart_own {most life now c : Nat} {S : List PSet} {p : Pkt} (hS : SsOk S) (ht : tilC S c) (hn : now < c) (hk : evK (keyE p) = true) :
    (evS (takeE most life S p now).1 = (takeE most life (evS S) p now).1 ∧ (takeE most life S p now).2 = (takeE most life (evS S) p now).2) ∨ ((takeE most life S p now) = (S, zP, false, 6) ∧ most ≤ S.length ∧ (takeE most life (evS S) p now).2.1 = zP ∧ (takeE most life (evS S) p now).2.2.1 = false) := by
  have hE := exp_same ht hn
  have hE2 := exp_same ht.ev hn
  by_cases h0 : 4611686018427387904 ≤ now
  · rw [tk_late h0, tk_late h0]; exact .inl ⟨rfl, rfl⟩
  · by_cases h1 : p.more = false ∧ p.off = 0
    · rw [tk_own h0 h1.1 h1.2, tk_own h0 h1.1 h1.2, hE, hE2]; exact .inl ⟨rfl, rfl⟩
    · by_cases h2 : mayE p ≠ 0
      · rw [tk_may h0 h1 h2, tk_may h0 h1 h2, hE, hE2]; exact .inl ⟨del_ev, rfl⟩
      · cases hf : findS S (keyE p) with
        | some x =>
          rw [tk_some h0 h1 h2 (by rw [hE]; exact hf), tk_some h0 h1 h2 (by rw [hE2, find_ev hk]; exact hf), hE, hE2]
          exact .inl (fin_ev hk (add_key_old (hS.all x (find_mem hf).1) (find_mem hf).2))
        | none =>
          have hl : (evS S).length ≤ S.length := List.length_filter_le _ _
          by_cases h3 : most ≤ S.length
          · rw [tk_full h0 h1 h2 (by rw [hE]; exact hf) (by rw [hE]; exact h3), hE]
            by_cases h4 : most ≤ (evS S).length
            · rw [tk_full h0 h1 h2 (by rw [hE2, find_ev hk]; exact hf) (by rw [hE2]; exact h4), hE2]
              exact .inl ⟨rfl, rfl⟩
            · right
              refine ⟨rfl, h3, ?_⟩
              rw [tk_new h0 h1 h2 (by rw [hE2, find_ev hk]; exact hf) (by rw [hE2]; exact h4)]
              have hm : mayE p = 0 := Decidable.not_not.1 h2
              -- one piece alone makes no packet
              have ha : addE ⟨[], now + life⟩ p = (⟨[p], now + life⟩, 0) := rfl
              have hw : wholeE [p] = none := by
                unfold wholeE
                rw [if_neg]
                rintro ⟨hc, hmo⟩
                have h5 : p.off = 0 := by
                  unfold contE at hc
                  rw [List.all_eq_true] at hc
                  have := hc 0 (by simp)
                  have h6 : plE p = 0 := by simpa [cumE, gt] using this
                  unfold plE at h6; omega
                exact h1 ⟨by simpa [gt] using hmo, h5⟩
              rw [fin_no (by rw [ha]; simp) (by rw [ha]; exact hw)]
              exact ⟨rfl, rfl⟩
          · rw [tk_new h0 h1 h2 (by rw [hE]; exact hf) (by rw [hE]; exact h3), tk_new h0 h1 h2 (by rw [hE2, find_ev hk]; exact hf) (by rw [hE2]; omega), hE, hE2]
            exact .inl (fin_ev hk add_key_new)
theorem putC {S : List PSet} {k : Ky} {y : PSet} {c : Nat} (h : tilC S c) (hy : y.til = c) : tilC (putS S k y) c := by
  unfold putS
  cases findS S k with
  | some _ =>
    intro x hx
    obtain ⟨z, hz, rfl⟩ := List.mem_map.1 hx
    split
    · exact hy
    · exact h z hz
  | none =>
    intro x hx
    rcases List.mem_append.1 hx with h1 | h1
    · exact h x h1
    · simp at h1; subst h1; exact hy
theorem finC_ {S : List PSet} {k : Ky} {x : PSet} {p : Pkt} {c : Nat} (h : tilC S c) (hx : x.til = c) : tilC (finS S k x p).1 c := by
  unfold finS
  split
  · exact fun x hx => h x (List.mem_filter.1 hx).1
  · split
    · exact fun x hx => h x (List.mem_filter.1 hx).1
    · exact putC h (by rw [addE_til]; exact hx)
theorem takeC {most life now c : Nat} {S : List PSet} {p : Pkt} (ht : tilC S c) (hn : now < c) (hc : now + life = c) : tilC (takeE most life S p now).1 c := by
  have hE := exp_same ht hn
  unfold takeE
  rw [hE]
  split
  · exact ht
  · split
    · exact ht
    · split
      · exact fun x hx => ht x (List.mem_filter.1 hx).1
      · cases hf : findS S (keyE p) with
        | some x => exact finC_ ht (ht x (find_mem hf).1)
        | none =>
          dsimp only
          split
          · exact ht
          · exact finC_ ht hc

end Go.Proofs.Ytmhkmcoobpfkcaa


namespace Go.Proofs.Ytmhkmcoobpfkcaa
open Go Pw
set_option maxRecDepth 20000
set_option maxHeartbeats 4000000
set_option synthInstance.maxHeartbeats 400000
set_option synthInstance.maxSize 4000
set_option maxHeartbeats 8000000

def sumQ (l : List Pkt) : Nat → Nat
  | 0 => 0
  | i + 1 => sumQ l i + (gt l i).data.length
theorem sumQ_le {l : List Pkt} {i j : Nat} (h : j < i) : (gt l j).data.length ≤ sumQ l i := by
  induction i with
  | zero => omega
  | succ i ih =>
    show _ ≤ sumQ l i + _
    rcases Nat.lt_or_eq_of_le (Nat.le_of_lt_succ h) with h | h
    · have := ih h; omega
    · rw [h]; omega
theorem sumQ_b {l : List Pkt} (h : ∀ j, (gt l j).okw) : ∀ i, sumQ l i ≤ 140737488351232 * i
  | 0 => Nat.le_refl _
  | i + 1 => by
    have h1 := sumQ_b h i
    have h2 := (h i).data
    show sumQ l i + _ ≤ _
    omega
theorem sQ {x y : Nat} (e : x = y) : Value.int .i64 (x : Int) = Value.int .i64 (y : Int) := by rw [e]
theorem or1 {n : Nat} (h : n < 65536) : (n ||| 1) % 2 = 1 ∧ n ||| 1 < 65536 := by
  refine ⟨?_, Nat.or_lt_two_pow (n := 16) h (by decide)⟩
  have := Nat.or_mod_two_pow (a := n) (b := 1) (n := 1)
  rw [show (2 : Nat) ^ 1 = 2 from rfl] at this
  rw [this]
  rcases Nat.mod_two_eq_zero_or_one n with h | h <;> rw [h] <;> rfl
theorem an1 {n : Nat} (h : n < 65536) : (n ^^^ (n &&& 1)) % 2 = 0 ∧ n ^^^ (n &&& 1) < 65536 := by
  refine ⟨?_, Nat.xor_lt_two_pow (n := 16) h (Nat.lt_of_le_of_lt Nat.and_le_left h)⟩
  have h1 := Nat.xor_mod_two_pow (a := n) (b := n &&& 1) (n := 1)
  rw [show (2 : Nat) ^ 1 = 2 from rfl] at h1
  have h2 : n &&& 1 = n % 2 := Nat.and_two_pow_sub_one_eq_mod n 1
  rw [h1, h2, Nat.mod_mod, Nat.xor_self]
def oddP (p : Pkt) : Pkt := ⟨p.src, p.dst, p.proto, p.ttl, p.id ||| 1, p.stay, p.more, p.off, p.data⟩
def evnP (p : Pkt) : Pkt := ⟨p.src, p.dst, p.proto, p.ttl, p.id ^^^ (p.id &&& 1), p.stay, p.more, p.off, p.data⟩
theorem odd_ok {p : Pkt} (h : p.okw) (hd : p.data.length ≤ 16384) : (oddP p).ok := ⟨h.src, h.dst, h.proto, h.ttl, (or1 h.id).2, h.off, Nat.lt_of_le_of_lt hd (by decide)⟩
theorem evn_ok {p : Pkt} (h : p.okw) (hd : p.data.length ≤ 16384) : (evnP p).ok := ⟨h.src, h.dst, h.proto, h.ttl, (an1 h.id).2, h.off, Nat.lt_of_le_of_lt hd (by decide)⟩
theorem odd_k {p : Pkt} (h : p.okw) : evK (keyE (oddP p)) = false := decide_eq_false (by show ¬ (p.id ||| 1) % 2 = 0; rw [(or1 h.id).1]; decide)
theorem evn_k {p : Pkt} (h : p.okw) : evK (keyE (evnP p)) = true := decide_eq_true (by show (p.id ^^^ (p.id &&& 1)) % 2 = 0; exact (an1 h.id).1)
theorem evS_ok {S : List PSet} (h : SsOk S) : SsOk (evS S) := h.filter _
attribute [local irreducible] takeE
theorem apart_spec (h : Array Obj) (own oth : List Pkt) (ord : List Bool) (a1 a2 a3 : Option Addr) (k1 k2 k3 : Nat) [hI1 : InpD h a1 (8 + 1) own.length k1 (own.flatMap pktV)] [hI2 : InpD h a2 (8 + 1) oth.length k2 (oth.flatMap pktV)] [hI3 : InpD h a3 (0 + 1) ord.length k3 (ord.flatMap boolV)] (hok1 : ∀ j, (gt own j).okw) (hok2 : ∀ j, (gt oth j).okw) (hl1 : own.length < 4611686018427387904) (hl2 : oth.length < 4611686018427387904) (hl3 : ord.length < 4611686018427387904) :
    Sat Try.prog 7 [.slice a1 own.length k1, .slice a2 oth.length k2, .slice a3 ord.length k3] [old h] (fun u L' => u = .bool true ∧ L' = [old h]) := by
  all_goals
    refine Sat.enter Try.func7 rfl Try.ntmps7 rfl (fun c R => ?_)
    try simp only [List.cons_append, List.nil_append]
    repeat' (first
      | (refine T.atB 0 ?_; refine T.lpa 0 [(0, _), (1, _), (2, _)] (0 : Nat) (fun i => [(7, .int .i64 (sumQ own i : Nat)), (8, .int .i64 (i : Nat))]) (fun _ => []) (fun i => i ≤ own.length ∧ i ≤ 200) (fun i => 200 - i) ⟨Nat.zero_le _, Nat.zero_le _⟩ ?_; rintro i g ⟨hi, hi3⟩; have hsb := sumQ_b hok1 i; have hdb := (hok1 i).data; simp only [List.cons_append, List.nil_append, appR])
      | (refine T.atB 2 ?_; obtain ⟨i0, hi0⟩ : ∃ x, x = i := ⟨_, rfl⟩; subst hi0; refine T.lpa 2 [(0, _), (1, _), (2, _)] (0 : Nat) (fun i => [(7, .int .i64 (sumQ own i0 + sumQ oth i : Nat)), (9, .int .i64 (i : Nat))]) (fun _ => []) (fun i => i ≤ oth.length ∧ i ≤ 200) (fun i => 200 - i) ⟨Nat.zero_le _, Nat.zero_le _⟩ ?_; rintro i g ⟨hi, hi3⟩; have hsb := sumQ_b hok2 i; have hdb := (hok2 i).data; simp only [List.cons_append, List.nil_append, appR])
      | (refine TQ.atL ?_; refine TQ.rda (i + 1 : Nat) ?_ ?_ rfl ⟨sQ (by first | rfl | exact Nat.add_assoc _ _ _), rfl, rfl, rfl, rfl, trivial⟩)
      | (refine T.atB 4 ?_; obtain ⟨ry, hry⟩ : ∃ x, x = b := ⟨_, rfl⟩; subst hry; obtain ⟨rx, hrx⟩ : ∃ x, x = b := ⟨_, rfl⟩; subst hrx; have ho1 : ∀ j, j < own.length → (gt own j).data.length ≤ 16384 := (fun j hj => Nat.le_trans (sumQ_le (i := i0) (by omega)) (by omega)); have ho2 : ∀ j, j < oth.length → (gt oth j).data.length ≤ 16384 := (fun j hj => Nat.le_trans (sumQ_le (i := i) (by omega)) (by omega)); refine T.ent (Ent.imp (show Imp (pcA ry 32 1000 [] :: pcA rx 32 1000 [] :: old h :: R) (pcA rx 32 1000 [] :: pcA ry 32 1000 (evS []) :: old h :: R) from (Imp.pull (.tail (.head _ _)) (Imp.pull (.head _ _) (Imp.refl _))))) ?_; refine T.lpa 4 [(0, _), (1, _), (2, _), (10, _), (12, _)] ((0, 0, []) : Nat × Nat × List PSet) (fun z => [(14, .int .i64 (z.1 : Nat)), (15, .int .i64 (z.2.1 : Nat)), (16, .int .i64 (z.1 + z.2.1 : Nat))]) (fun z => [pcA rx 32 1000 z.2.2, pcA ry 32 1000 (evS z.2.2)]) (fun z => z.1 ≤ own.length ∧ z.2.1 ≤ oth.length ∧ SsOk z.2.2 ∧ tilC z.2.2 1001) (fun z => (own.length - z.1) + (oth.length - z.2.1)) ⟨Nat.zero_le _, Nat.zero_le _, ss0, fun x hx => (List.not_mem_nil hx).elim⟩ ?_; rintro ⟨kk, mm, S⟩ g ⟨hk, hm, hS, htc⟩; dsimp only at hk hm hS htc ⊢; have hgo : True := trivial; simp only [List.cons_append, List.nil_append, appR])
      | (refine T.atSR 20 ?_; refine T.cutR 20 (fun bb : Bool => [(14, .int .i64 (kk : Nat)), (15, .int .i64 (mm : Nat)), (16, .int .i64 (kk + mm : Nat)), (0, .slice a1 own.length k1), (1, .slice a2 oth.length k2), (2, .slice a3 ord.length k3), (10, .pointer (some ⟨rx, 0, none⟩)), (12, .pointer (some ⟨ry, 0, none⟩)), (122, .bool bb)]) (fun _ => pcA rx 32 1000 S :: pcA ry 32 1000 (evS S) :: old h :: R) (fun bb => bb = true → mm < oth.length) ?_ (fun bb g hbb => ?_))
      | (refine TQ.atC ?_; first | (refine TQ.cn (true : Bool) rfl ⟨rfl, rfl, rfl, rfl, rfl, rfl, rfl, rfl, rfl, trivial⟩ (fun _ => by omega) (Ent.imp (by repeat first | exact Imp.refl _ | (apply Imp.pull; focus ((repeat first | exact Del.head _ _ | apply Del.tail); done)) | apply Imp.drop))) | (refine TQ.cn (false : Bool) rfl ⟨rfl, rfl, rfl, rfl, rfl, rfl, rfl, rfl, rfl, trivial⟩ (fun h => by cases h) (Ent.imp (by repeat first | exact Imp.refl _ | (apply Imp.pull; focus ((repeat first | exact Del.head _ _ | apply Del.tail); done)) | apply Imp.drop))) | (refine TQ.cn (gt ord (kk + mm) : Bool) rfl ⟨rfl, rfl, rfl, rfl, rfl, rfl, rfl, rfl, rfl, trivial⟩ (fun _ => by omega) (Ent.imp (by repeat first | exact Imp.refl _ | (apply Imp.pull; focus ((repeat first | exact Del.head _ _ | apply Del.tail); done)) | apply Imp.drop))))
      | (refine T.atR 21 ?_; clear hgo; have hmo := hbb (by assumption); have hpo := odd_ok (hok2 mm) (ho2 mm (by omega)); have hao := apart_other (most := 32) (life := 1000) (now := 1) hS htc (by decide) (odd_k (hok2 mm)); have hso := ss_take (most := 32) (life := 1000) (now := 1) hS hpo (by decide); have hto := takeC (most := 32) (life := 1000) (now := 1) (p := oddP (gt oth mm)) htc (by decide) (by decide); have hid := (hok2 mm).id)
      | (refine T.atR 25 ?_; clear hgo; have hpe := evn_ok (hok1 kk) (ho1 kk (by assumption)); have hap := apart_own (most := 32) (life := 1000) (now := 1) hS htc (by decide) (evn_k (hok1 kk)); have hse := ss_take (most := 32) (life := 1000) (now := 1) hS hpe (by decide); have hte := takeC (most := 32) (life := 1000) (now := 1) (p := evnP (gt own kk)) htc (by decide) (by decide); have hid := (hok1 kk).id; have hg2 : True := trivial)
      | (refine T.atR 29 ?_; clear hg2; rw [show (⟨(gt own kk).src, (gt own kk).dst, (gt own kk).proto, (gt own kk).ttl, (gt own kk).id ^^^ ((gt own kk).id &&& 1), (gt own kk).stay, (gt own kk).more, (gt own kk).off, (gt own kk).data⟩ : Pkt) = evnP (gt own kk) from rfl]; generalize takeE 32 1000 S (evnP (gt own kk)) 1 = T1 at *; generalize takeE 32 1000 (evS S) (evnP (gt own kk)) 1 = T2 at *; obtain ⟨S1, p1, is1, e1⟩ := T1; obtain ⟨S2, p2, is2, e2⟩ := T2; dsimp only at hap hse hte ⊢; rcases hap with ⟨ha, hb⟩ | ⟨ha, hb, hd, he⟩; all_goals first | (subst hd; subst he; cases ha; skip) | (cases hb; subst ha; skip))
      | (refine TQ.atL ?_; refine TQ.rd ((kk, mm + 1, (takeE 32 1000 S (oddP (gt oth mm)) 1).1) : Nat × Nat × List PSet) rfl ⟨rfl, rfl, rfl, rfl, rfl, rfl, rfl, rfl, trivial⟩ ⟨hk, by dsimp only; omega, hso, hto⟩ (by dsimp only; omega) (Ent.imp ?_); dsimp only; rw [hao]; exact (by repeat first | exact Imp.refl _ | (apply Imp.pull; focus ((repeat first | exact Del.head _ _ | apply Del.tail); done)) | apply Imp.drop))
      | (refine TQ.atL ?_; refine TQ.rd ((kk + 1, mm, S1) : Nat × Nat × List PSet) rfl ⟨rfl, rfl, sQ (by dsimp only; omega), rfl, rfl, rfl, rfl, rfl, trivial⟩ ⟨by dsimp only; omega, hm, hse, hte⟩ (by dsimp only; omega) (Ent.imp (by repeat first | exact Imp.refl _ | (apply Imp.pull; focus ((repeat first | exact Del.head _ _ | apply Del.tail); done)) | apply Imp.drop)))
      | exact absurd rfl ‹p1 ≠ p1›
      | exact ⟨hS, hpo, by decide, by decide⟩
      | exact ⟨hS, hpe, by decide, by decide⟩
      | exact ⟨evS_ok hS, hpe, by decide, by decide⟩
      | exact absurd hc (by rw [bne_self_eq_false]; exact Bool.false_ne_true)
      | (exact Fini.of ⟨rfl, rfl⟩ (by repeat first | exact Imp.refl _ | (apply Imp.pull; focus ((repeat first | exact Del.head _ _ | apply Del.tail); done)) | apply Imp.drop))
      | refine And.intro (fun hc => ?_) (fun hc => ?_)
      | refine And.intro ?_ ?_
      | intro b
      | refine stp ?_
      | refine TQ.finC ?_
      | refine TQ.finC2 ?_
      | refine TQ.finC3 ?_
      | refine ⟨fun hc => ?_, fun hc => ?_⟩
      | refine Ei.f ?_
      | refine ⟨?_, ?_⟩
      | intro b
      | exact absurd rfl hc
      | exact absurd hc (by decide)
      | exact absurd rfl hc
      | exact absurd hc (by decide)
      | omega
      | (dsimp only; omega)
      | fail)

end Go.Proofs.Ytmhkmcoobpfkcaa

