/- Lemmas for the proofs of this seat: no statement of the seat is claimed here. -/
import Derived.Test.YtbandaebilkkkaaDoorK17
set_option linter.all false
namespace Go.Proofs.YtbandaebilkkkaaDoor
open Go Pw
set_option maxRecDepth 20000
set_option maxHeartbeats 4000000

structure LastI (q : Tb) (now : Nat) (w said : List Nr) : Prop where
  srt : Srt w
  len : w.length ≤ q.most
  al : ∀ x ∈ w, aloneE x.m = true ∧ x.a ≠ q.addr
  mono : said.Pairwise fun x y => x.u ≤ y.u
  le : ∀ y ∈ said, y.u ≤ now
  wit : ∀ x ∈ w, ∃ y ∈ said, y.a = x.a ∧ y.m = x.m ∧ x.u ≤ y.u + q.life
variable {q : Tb} {now : Nat} {w said : List Nr}
theorem LastI.later {now' : Nat} (h : LastI q now w said) (hn : now ≤ now') : LastI q now' w said := { h with le := fun y hy => Nat.le_trans (h.le y hy) hn }
theorem LastI.sub {w' : List Nr} (h : LastI q now w said) (hs : Srt w') (hl : w'.length ≤ w.length) (hm : ∀ x ∈ w', x ∈ w) : LastI q now w' said :=
  { h with srt := hs, len := Nat.le_trans hl h.len, al := fun x hx => h.al x (hm x hx), wit := fun x hx => h.wit x (hm x hx) }
theorem LastI.tidy (h : LastI q now w said) (n : Nat) : LastI q now (tidyE n w) said := h.sub (tidy_srt h.srt) (tidy_len _ _) fun x hx => (List.mem_filter.1 hx).1
theorem LastI.near (h : LastI q now w said) (n : Nat) : LastI q now (nearE w n) said := by
  unfold nearE; split
  · exact h.tidy n
  · exact h
theorem LastI.say (h : LastI q now w said) (a : Nat) (m : List UInt8) : LastI q now w (said ++ [⟨a, m, now⟩]) :=
  { h with
    mono := List.pairwise_append.2 ⟨h.mono, List.pairwise_singleton _ _, fun x hx y hy => by rw [List.mem_singleton] at hy; subst hy; exact h.le x hx⟩
    le := fun y hy => by
      rcases List.mem_append.1 hy with hy | hy
      · exact h.le y hy
      · rw [List.mem_singleton] at hy; subst hy; exact Nat.le_refl _
    wit := fun x hx => by
      obtain ⟨y, hy, h2⟩ := h.wit x hx
      exact ⟨y, List.mem_append_left _ hy, h2⟩ }
theorem LastI.put {w' : List Nr} {x : Nr} (h : LastI q now w said) (hs : Srt w') (hl : w'.length ≤ q.most) (ha : aloneE x.m = true) (hx : x.a ≠ q.addr) (hw : ∃ y ∈ said, y.a = x.a ∧ y.m = x.m ∧ x.u ≤ y.u + q.life)
    (hm : ∀ z ∈ w', z = x ∨ z ∈ w) : LastI q now w' said :=
  { h with
    srt := hs, len := hl
    al := fun z hz => by
      rcases hm z hz with rfl | h2
      · exact ⟨ha, hx⟩
      · exact h.al z h2
    wit := fun z hz => by
      rcases hm z hz with rfl | h2
      · exact hw
      · exact h.wit z h2 }
theorem LastI.learn {addr : Nat} {mac : List UInt8} (h : LastI q now w said) (hy : (⟨addr, mac, now⟩ : Nr) ∈ said) : LastI q now (learnE q w addr mac now).1 said := by
  by_cases hb : aloneA addr = false ∨ aloneE mac = false ∨ addr = q.addr ∨ 4611686018427387904 ≤ now
  · rw [learn_bad hb]; exact h
  · have hs := learn_srt (T := q) (addr := addr) (mac := mac) (now := now) h.srt
    have hl := learn_len (T := q) (addr := addr) (mac := mac) (now := now) h.len
    have ha : aloneE mac = true := by
      cases hm : aloneE mac with
      | true => rfl
      | false => exact absurd (.inr (.inl hm)) hb
    have hx : addr ≠ q.addr := fun h2 => hb (.inr (.inr (.inl h2)))
    have ht := h.tidy now
    by_cases h2 : hasE addr (tidyE now w) = true
    · rw [learn_set hb h2] at hs hl ⊢
      exact ht.put (x := ⟨addr, mac, now + q.life⟩) hs hl ha hx ⟨_, hy, rfl, rfl, Nat.le_refl _⟩ fun z hz => by
        rcases List.mem_or_eq_of_mem_set hz with h3 | h3
        · exact .inr h3
        · exact .inl h3
    · by_cases h3 : q.most ≤ (tidyE now w).length
      · rw [learn_full hb h2 h3]; exact ht
      · rw [learn_put hb h2 h3] at hs hl ⊢
        exact ht.put (x := ⟨addr, mac, now + q.life⟩) hs hl ha hx ⟨_, hy, rfl, rfl, Nat.le_refl _⟩ fun z hz => by
          rcases List.mem_append.1 hz with h4 | h4
          · exact .inr (List.mem_of_mem_take h4)
          · rcases List.mem_cons.1 h4 with h4 | h4
            · exact .inl h4
            · exact .inr (List.mem_of_mem_drop h4)
theorem LastI.unlearn {addr : Nat} {mac : List UInt8} (h : LastI q now w said) (he : ¬ (learnE q w addr mac now).2 = 0) : LastI q now (learnE q w addr mac now).1 said := by
  by_cases hb : aloneA addr = false ∨ aloneE mac = false ∨ addr = q.addr ∨ 4611686018427387904 ≤ now
  · rw [learn_bad hb]; exact h
  · by_cases h2 : hasE addr (tidyE now w) = true
    · rw [learn_set hb h2] at he; exact absurd rfl he
    · by_cases h3 : q.most ≤ (tidyE now w).length
      · rw [learn_full hb h2 h3]; exact h.tidy now
      · rw [learn_put hb h2 h3] at he; exact absurd rfl he
theorem LastI.take {a : Ar} (h : LastI q now w said) (he : (takeE q w a now).2.2.2 = 0) : LastI q now (takeE q w a now).1 (said ++ [⟨a.fa, a.f, now⟩]) := by
  by_cases hb : mayE a = false ∨ 4611686018427387904 ≤ now ∨ aloneE a.f = false ∨ aloneA a.fa = false ∨ a.fa = q.addr
  · rw [take_bad hb] at he; cases he
  · rw [take_ok hb]
    have h1 := h.say a.fa a.f
    dsimp only
    split
    · exact (h1.tidy now).learn (by simp)
    · exact h1.tidy now
theorem LastI.untake {a : Ar} (h : LastI q now w said) (he : ¬ (takeE q w a now).2.2.2 = 0) : LastI q now (takeE q w a now).1 said := by
  by_cases hb : mayE a = false ∨ 4611686018427387904 ≤ now ∨ aloneE a.f = false ∨ aloneA a.fa = false ∨ a.fa = q.addr
  · rw [take_bad hb]; exact h
  · rw [take_ok hb] at he
    exfalso; apply he
    dsimp only; split <;> rfl
theorem take_is {a : Ar} (h : LastI q now w said) : (takeE q w a now).2.2.1 = (decide ((takeE q w a now).2.2.2 = 0) && decide (a.ta = q.addr) && decide (a.op = 1)) := by
  by_cases hb : mayE a = false ∨ 4611686018427387904 ≤ now ∨ aloneE a.f = false ∨ aloneA a.fa = false ∨ a.fa = q.addr
  · rw [take_bad hb]; simp
  · rw [take_ok hb]
    dsimp only
    by_cases h1 : a.ta ≠ q.addr ∨ a.op ≠ 1
    · rw [if_pos h1]
      dsimp only
      rcases h1 with h1 | h1
      · rw [decide_eq_false h1]; simp
      · rw [decide_eq_false h1]; simp
    · rw [if_neg h1]
      have h2 : a.ta = q.addr := Decidable.not_not.1 fun h => h1 (.inl h)
      have h3 : a.op = 1 := Decidable.not_not.1 fun h => h1 (.inr h)
      rw [decide_eq_true h2, decide_eq_true h3]; simp
theorem take_ans {a : Ar} (h : (takeE q w a now).2.2.1 = true) : (takeE q w a now).2.1 = ⟨2, q.mac, q.addr, a.f, a.fa⟩ := by
  by_cases hb : mayE a = false ∨ 4611686018427387904 ≤ now ∨ aloneE a.f = false ∨ aloneA a.fa = false ∨ a.fa = q.addr
  · rw [take_bad hb] at h; cases h
  · rw [take_ok hb] at h ⊢
    dsimp only at h ⊢
    split at h
    · cases h
    · rename_i h1; rw [if_neg h1]
theorem tidy_idem (l : List Nr) (n : Nat) : tidyE n (tidyE n l) = tidyE n l := by
  unfold tidyE; rw [List.filter_filter]; simp
theorem near_look {n : Nat} (hn : n < 4611686018427387904) (hs : Srt w) {s : Nr} (h : s ∈ nearE w n) : lookE (nearE w n) s.a n = (nearE w n, s.m, 0) := by
  have e : nearE w n = tidyE n w := if_pos hn
  rw [e] at h ⊢
  have := look_some (l := tidyE n w) (a := s.a) (now := n) (s := s) (by omega) (tidy_srt hs) (by rw [tidy_idem]; exact h) rfl
  rw [tidy_idem] at this
  exact this
theorem near_until {n : Nat} (hn : n < 4611686018427387904) {s : Nr} (h : s ∈ nearE w n) : n < s.u := by
  have e : nearE w n = tidyE n w := if_pos hn
  rw [e] at h
  have := (List.mem_filter.1 h).2
  simpa using this
theorem srt_lt {l : List Nr} (h : Srt l) {m k : Nat} {x y : Nr} (hmk : m < k) (hx : l[m]? = some x) (hy : l[k]? = some y) : x.a < y.a := by
  have hk : k < l.length := by rcases Nat.lt_or_ge k l.length with h5 | h5; exact h5; rw [List.getElem?_eq_none h5] at hy; cases hy
  rw [List.getElem?_eq_getElem (by omega)] at hx
  rw [List.getElem?_eq_getElem hk] at hy
  cases hx; cases hy
  exact List.pairwise_iff_getElem.1 h m k (by omega) hk hmk
theorem mono_le {l : List Nr} (h : l.Pairwise fun x y => x.u ≤ y.u) {m k : Nat} {x y : Nr} (hmk : m ≤ k) (hx : l[m]? = some x) (hy : l[k]? = some y) : x.u ≤ y.u := by
  rcases Nat.lt_or_eq_of_le hmk with h1 | rfl
  · have hk : k < l.length := by rcases Nat.lt_or_ge k l.length with h5 | h5; exact h5; rw [List.getElem?_eq_none h5] at hy; cases hy
    rw [List.getElem?_eq_getElem (by omega)] at hx
    rw [List.getElem?_eq_getElem hk] at hy
    cases hx; cases hy
    exact List.pairwise_iff_getElem.1 h m k (by omega) hk h1
  · rw [hx] at hy; cases hy; exact Nat.le_refl _
def qL (n life : Nat) : Tb := ⟨m1, 167772161, n, life⟩
theorem newL_ok (n life : Nat) (h1 : 1 ≤ n) (h2 : n ≤ 64) (h3 : 1 ≤ life) (h4 : life ≤ 4294967296) :
    Sat Tryd.prog 10 [str m1, .int .u32 (167772161 : Nat), .int .i64 n, .int .u64 life] [] (fun u L' => ∃ p, u = .tuple #[.pointer (some ⟨p, 0, none⟩), .int .i64 (0 : Nat)] ∧ L' = [row 64 p (tabV (qL n life) (.slice none 0 0)), sl 40 3 (.slice none 0 0) ([] : List Nr).length (([] : List Nr).flatMap nearV)]) :=
  new_ok m1 167772161 n life (by decide) (by decide) ⟨by decide, by decide, by omega, by omega, h3, h4⟩
theorem qL_ok (n life : Nat) (h1 : 1 ≤ n) (h2 : n ≤ 64) (h3 : 1 ≤ life) (h4 : life ≤ 4294967296) : (qL n life).ok := ⟨show m1.length ≤ 1048576 by decide, show aloneE m1 = true by decide, show (167772161 : Nat) < 4294967296 by decide, show aloneA 167772161 = true by decide, h1, h2, h3, h4⟩
theorem LastI.nil {q : Tb} : LastI q 0 [] [] := ⟨List.Pairwise.nil, Nat.zero_le _, fun x hx => (by cases hx), List.Pairwise.nil, fun x hx => (by cases hx), fun x hx => (by cases hx)⟩
theorem last_spec (h : Array Obj) (v : Value) (l : List Stp) (hI : Inp h 9 l.length v (l.flatMap stepV)) (hok : ∀ t ∈ l, t.ok) (most life : Nat) (hmost : most < 256) (hlife : life < 65536) (n : Nat) (hn : n = most % 8 + 1) :
    Sat Tryd.prog 3 [.int .u8 most, .int .u16 life, v] [old h] (fun u L' => u = .bool true ∧ L' = [old h]) := by
  refine Sat.enter Tryd.func3 rfl Tryd.ntmps3 rfl (fun c R => ?_)
  try simp only [List.cons_append, List.nil_append]
  refine T.seq ?_
  refine T.reg ?_
  refine TO.p (DP.as (by conv => lhs; whnf)) ?_
  refine TO.nil ?_
  refine TQ.nn ?_
  refine T.seq ?_
  refine T.seq ?_
  refine T.reg ?_
  refine TO.p (DP.mv (by conv => lhs; whnf)) ?_
  refine TO.n (N.callF (heavy_spec h v l hI hok) Tryd.call8 ⟨rfl, trivial⟩ (by (repeat first | exact Pick.nil _ | (apply Pick.cons; focus ((repeat first | exact Del.head _ _ | apply Del.tail); done))))) ?_
  rintro u25 _ ⟨_, ⟨hb, rfl, hhv, rfl⟩, rfl⟩
  try simp only [List.cons_append, List.nil_append]
  refine TO.nil ?_
  refine TQ.nn ?_
  refine T.condB rfl (fun hc0 => ?_) (fun hc0 => ?_)
  · refine T.seq ?_
    refine T.reg ?_
    refine TO.n (N.callF (works_spec) Tryd.call9 trivial (by (repeat first | exact Pick.nil _ | (apply Pick.cons; focus ((repeat first | exact Del.head _ _ | apply Del.tail); done))))) ?_
    rintro u26 _ ⟨_, ⟨rfl, rfl⟩, rfl⟩
    try simp only [List.cons_append, List.nil_append]
    refine TO.p (DP.as (by conv => lhs; whnf)) ?_
    refine TO.nil ?_
    refine TQ.nn ?_
    refine T.ret ?_
    refine TQ.nr ?_
    refine TQ.ret (vs := [.bool true]) (L' := [old h]) rfl ⟨rfl, rfl⟩ ⟨rfl, rfl⟩ (by (refine Ent.imp ?_; repeat first | exact Imp.refl _ | exact Imp.nil _ | (apply Imp.pull; focus ((repeat first | exact Del.head _ _ | apply Del.tail); done)) | (apply Imp.row; focus ((repeat first | exact Del.head _ _ | apply Del.tail); done)) | apply Imp.drop))
  · obtain ⟨hll, hls⟩ := hhv hc0
    have hsm : ∀ t ∈ l, t.a.f.length ≤ 8192 ∧ t.a.t.length ≤ 8192 ∧ t.mac.length ≤ 8192 := fun t ht => by
      have h5 := lens_mem ht
      omega
    have hq := qL_ok n (life + 1) (by omega) (by omega) (by omega) (by omega)
    refine T.skip ?_
    refine TQ.nn ?_
    refine T.seq ?_
    refine T.reg ?_
    refine TO.p (DP.mv (by conv => lhs; whnf)) ?_
    refine TO.p (DP.cv rfl is5 Tryd.underlying3 (l := 9223372036854775808) rfl (by omega)) ?_
    refine TO.p (DP.rem (b := 8) rfl rfl (by omega)) ?_
    refine TO.p (DP.to (v' := .int .i64 (n : Nat)) (DP.add (b := 1) rfl rfl (l := 9223372036854775808) rfl (by omega)) (by rw [hn])) ?_
    refine TO.p (DP.as (by conv => lhs; whnf)) ?_
    refine TO.nil ?_
    refine TQ.nn ?_
    refine T.seq ?_
    refine T.reg ?_
    refine TO.p (DP.as (by conv => lhs; whnf)) ?_
    refine TO.nil ?_
    refine TQ.nn ?_
    refine T.seq ?_
    refine T.reg ?_
    refine TO.p (DP.mv (by conv => lhs; whnf)) ?_
    refine TO.p (DP.mv (by conv => lhs; whnf)) ?_
    refine TO.p (DP.mv (by conv => lhs; whnf)) ?_
    refine TO.p (DP.cv rfl is22 Tryd.underlying31 (l := 18446744073709551616) rfl (by omega)) ?_
    refine TO.p (DP.add (b := 1) rfl rfl (l := 18446744073709551616) rfl (by omega)) ?_
    refine TO.n (N.callF (newL_ok n (life + 1) (by omega) (by omega) (by omega) (by omega)) Tryd.call10 ⟨rfl, rfl, rfl, rfl, trivial⟩ (by (repeat first | exact Pick.nil _ | (apply Pick.cons; focus ((repeat first | exact Del.head _ _ | apply Del.tail); done))))) ?_
    rintro u37 _ ⟨_, ⟨p, rfl, rfl⟩, rfl⟩
    try simp only [List.cons_append, List.nil_append]
    refine TO.p (DP.mv (by conv => lhs; whnf)) ?_
    refine TO.p (DP.ex rfl rfl) ?_
    refine TO.p (DP.ex rfl rfl) ?_
    refine TO.p (DP.as (by conv => lhs; whnf)) ?_
    refine TO.p (DP.as (by conv => lhs; whnf)) ?_
    refine TO.nil ?_
    refine TQ.nn ?_
    refine T.seq ?_
    refine T.seq ?_
    refine T.reg ?_
    refine TO.p (DP.mv (by conv => lhs; whnf)) ?_
    refine TO.p (DP.to (v' := .bool false) (DP.neq (a := 0) (b := 0) rfl rfl) (by simp)) ?_
    refine TO.p (DP.mv (by conv => lhs; whnf)) ?_
    refine TO.onP rfl (DP.mv (by conv => lhs; whnf)) ?_
    refine TO.onP rfl (DP.peqS rfl rfl Tryd.underlying27) ?_
    refine TO.p (DP.pkF rfl (by conv => lhs; whnf)) ?_
    refine TO.nil ?_
    refine TQ.nn ?_
    refine T.condF rfl ?_
    refine T.skip ?_
    refine TQ.nn ?_
    refine T.seq ?_
    refine T.reg ?_
    refine TO.p (DP.as (by conv => lhs; whnf)) ?_
    refine TO.nil ?_
    refine TQ.nn ?_
    refine T.seq ?_
    refine T.reg ?_
    refine TO.p (DP.as (by conv => lhs; whnf)) ?_
    refine TO.nil ?_
    refine TQ.nn ?_
    refine T.seq ?_
    refine T.seq ?_
    refine T.reg ?_
    refine TO.p (DP.as (by conv => lhs; whnf)) ?_
    refine TO.nil ?_
    refine TQ.nn ?_
    refine T.block ?_
    refine T.loop (S := Nat × Nat × List Nr × Value × List Nr × Value) (0, 0, [], .slice none 0 0, [], .slice none 0 0) (fun ⟨i, now0, w, vt, said, vs⟩ => [(1, .int .u16 (life : Nat)), (2, v), (7, .int .i64 (n : Nat)), (8, .int .u32 (167772161 : Nat)), (9, .pointer (some ⟨p, 0, none⟩)), (13, .int .i64 (i : Nat)), (11, .int .u64 (now0 : Nat)), (12, vs)]) (fun ⟨i, now0, w, vt, said, vs⟩ => old h :: row 64 p (tabV (qL n (life + 1)) vt) :: sl 40 3 vt (w).length ((w).flatMap nearV) :: sl 40 3 vs (said).length ((said).flatMap nearV) :: R) (fun ⟨i, now0, w, vt, said, vs⟩ => i ≤ l.length ∧ now0 ≤ 16 * i ∧ LastI (qL n (life + 1)) now0 w said ∧ said.length ≤ i) (fun ⟨i, now0, w, vt, said, vs⟩ => l.length - i) ?_ ?_ ?_ ?_
    · (repeat first | exact trivial | refine ⟨rfl, ?_⟩)
    · exact ⟨Nat.zero_le _, Nat.zero_le _, LastI.nil, Nat.zero_le _⟩
    · (dsimp only; simp only [List.length_nil, List.flatMap_nil]; refine Ent.imp (Imp.pull (by (repeat first | exact Del.head _ _ | apply Del.tail)) (Imp.pull (by (repeat first | exact Del.head _ _ | apply Del.tail)) (Imp.slN (Imp.slN (by (repeat first | exact Imp.refl _ | exact Imp.nil _ | (apply Imp.pull; focus ((repeat first | exact Del.head _ _ | apply Del.tail); done)) | apply Imp.drop)))))))
    rintro ⟨i, now0, w, vt, said, vs⟩ g ⟨hil, hn0, hL0, hsl0⟩
    try dsimp only
    refine T.seq ?_
    refine T.seq ?_
    refine T.reg ?_
    refine TO.p (DP.mv (by conv => lhs; whnf)) ?_
    refine TO.p (DP.mv (by conv => lhs; whnf)) ?_
    refine TO.p (DP.lenI hI rfl Tryd.underlying23) ?_
    refine TO.p ((by first | exact DP.lss rfl rfl | exact DP.lssI rfl rfl)) ?_
    refine TO.nil ?_
    refine TQ.nn ?_
    refine T.condD rfl (fun hc2 => ?_) (fun hc2 => ?_)
    · obtain ⟨t, ht⟩ := get_some (l := l) (i := i) (by omega)
      have htk := hok t (mem_of_get ht)
      obtain ⟨s1, s2, s3⟩ := hsm t (mem_of_get ht)
      obtain ⟨k1, _, k3, _, k5, k6, _, k8⟩ := htk
      have hao : t.a.ok := ⟨k1, by omega, k3, by omega, k5⟩
      have hw64 : w.length ≤ 64 := by have h5 : w.length ≤ n := hL0.len; omega
      obtain ⟨now, hnow⟩ : ∃ now, now = now0 + t.now % 16 := ⟨_, rfl⟩
      have hL1 := hL0.later (show now0 ≤ now by omega)
      refine T.skip ?_
      refine TQ.nn ?_
      refine T.seq ?_
      refine T.block ?_
      refine T.seq ?_
      refine T.reg ?_
      refine TO.p (DP.mv (by conv => lhs; whnf)) ?_
      refine TO.p (DP.mv (by conv => lhs; whnf)) ?_
      refine TO.p (DP.iasH (n := l.length) (sz := 8) hI rfl rfl Tryd.underlying23 sz36 (by omega)) ?_
      refine TO.d (D.ldHA (us := stepV t) hI (by omega) (by conv => lhs; whnf) ag36 sz36 (by (repeat first | exact LMem.head _ _ | apply LMem.tail)) (flat_elem stepV_len ht) rfl) ?_
      refine TO.n (N.alA zr36) ?_
      rintro _ _ ⟨b14, rfl, rfl⟩
      refine TO.n0 (N.stA (vs := stepV t) rfl rfl sz36 (by (repeat first | exact Put.head _ _ _ | apply Put.tail)) (by simp [stepV]) (by simp [stepV, str, Value.oneCell']) (by rfl)) ?_
      rintro _ _ ⟨rfl, rfl⟩
      rw [show setAll _ 0 (stepV t) = stepV t from rfl]
      refine TO.nil ?_
      refine TQ.nn ?_
      refine T.seq ?_
      refine T.reg ?_
      refine TO.p (DP.mv (by conv => lhs; whnf)) ?_
      refine TO.p (DP.fa 8 rfl Tryd.underlying36 rfl rfl sz31) ?_
      refine TO.d (D.ldR (v := .int .u64 t.now) rfl pl31 (by (repeat first | exact LMem.head _ _ | apply LMem.tail)) rfl) ?_
      refine TO.p (DP.rem (b := 16) rfl rfl (by omega)) ?_
      refine TO.p (DP.to (v' := .int .u64 (now : Nat)) (DP.add rfl rfl (l := 18446744073709551616) rfl (by omega)) (by rw [hnow])) ?_
      refine TO.p (DP.as (by conv => lhs; whnf)) ?_
      refine TO.nil ?_
      refine TQ.nn ?_
      refine T.cut (S := List Nr × Value × List Nr × Value) (fun ⟨w2, vt2, said2, vs2⟩ => [(1, .int .u16 (life : Nat)), (2, v), (7, .int .i64 (n : Nat)), (8, .int .u32 (167772161 : Nat)), (9, .pointer (some ⟨p, 0, none⟩)), (13, .int .i64 (i : Nat)), (11, .int .u64 (now : Nat)), (12, vs2), (14, .pointer (some ⟨b14, 0, none⟩))]) (fun ⟨w2, vt2, said2, vs2⟩ => old h :: row 36 b14 (stepV t) :: row 64 p (tabV (qL n (life + 1)) vt2) :: sl 40 3 vt2 (w2).length ((w2).flatMap nearV) :: sl 40 3 vs2 (said2).length ((said2).flatMap nearV) :: R) (fun ⟨w2, vt2, said2, vs2⟩ => LastI (qL n (life + 1)) now w2 said2 ∧ said2.length ≤ i + 1) ?_ ?_
      · refine T.seq ?_
        refine T.reg ?_
        refine TO.p (DP.fa 0 rfl Tryd.underlying36 rfl rfl sz3) ?_
        refine TO.d (D.ldR (v := .int .i64 t.dd) rfl pl3 (by (repeat first | exact LMem.head _ _ | apply LMem.tail)) rfl) ?_
        refine TO.nil ?_
        refine TQ.nn ?_
        refine T.block ?_
        refine T.seq ?_
        refine T.reg ?_
        refine TO.p (DP.eqlI rfl rfl) ?_
        refine TO.p (DP.as (by conv => lhs; whnf)) ?_
        refine TO.nil ?_
        refine TQ.nn ?_
        refine T.condD rfl (fun hc3 => ?_) (fun hc3 => ?_)
        · refine T.seq ?_
          refine T.reg ?_
          refine TO.p (DP.mv (by conv => lhs; whnf)) ?_
          refine TO.p (DP.fa 1 rfl Tryd.underlying36 rfl rfl sz34) ?_
          refine TO.d (D.ldRM (vs := arV t.a) rfl ag34 sz34 (by (repeat first | exact LMem.head _ _ | apply LMem.tail)) (stepV_a t) rfl) ?_
          refine TO.p (DP.mv (by conv => lhs; whnf)) ?_
          refine TO.n (N.callF (take_spec (qL n (life + 1)) w vt p (by omega) t.a now hq hL1.srt hao) Tryd.call11 ⟨rfl, rfl, rfl, trivial⟩ (by (repeat first | exact Pick.nil _ | (apply Pick.cons; focus ((repeat first | exact Del.head _ _ | apply Del.tail); done))))) ?_
          rintro u70 _ ⟨_, ⟨rfl, vt2, rfl⟩, rfl⟩
          try simp only [List.cons_append, List.nil_append]
          refine TO.p (DP.mv (by conv => lhs; whnf)) ?_
          refine TO.p (DP.ex rfl rfl) ?_
          refine TO.p (DP.ex rfl rfl) ?_
          refine TO.p (DP.ex rfl rfl) ?_
          refine TO.n (N.alA zr34) ?_
          rintro _ _ ⟨b15, rfl, rfl⟩
          refine TO.n0 (N.stA (vs := arV (takeE (qL n (life + 1)) w t.a now).2.1) rfl rfl sz34 (by (repeat first | exact Put.head _ _ _ | apply Put.tail)) (by simp [frV, arV, fr0, ar0]) (by simp [frV, arV, fr0, ar0, str, Value.oneCell']) (by rfl)) ?_
          rintro _ _ ⟨rfl, rfl⟩
          rw [show setAll _ 0 (arV (takeE (qL n (life + 1)) w t.a now).2.1) = arV (takeE (qL n (life + 1)) w t.a now).2.1 from rfl]
          refine TO.p (DP.as (by conv => lhs; whnf)) ?_
          refine TO.p (DP.as (by conv => lhs; whnf)) ?_
          refine TO.nil ?_
          refine TQ.nn ?_
          refine T.seq ?_
          refine T.seq ?_
          refine T.reg ?_
          refine TO.p (DP.mv (by conv => lhs; whnf)) ?_
          refine TO.p (DP.eql (a := (takeE (qL n (life + 1)) w t.a now).2.2.2) (b := 0) rfl rfl) ?_
          refine TO.nil ?_
          refine TQ.nn ?_
          refine T.condD rfl (fun hc4 => ?_) (fun hc4 => ?_)
          · refine T.reg ?_
            refine TO.p (DP.mv (by conv => lhs; whnf)) ?_
            refine TO.p (DP.fa 1 rfl Tryd.underlying36 rfl rfl sz34) ?_
            refine TO.p (DP.fa 2 rfl Tryd.underlying34 rfl rfl sz26) ?_
            refine TO.d (D.ldR (v := .int .u32 t.a.fa) rfl pl26 (by (repeat first | exact LMem.head _ _ | apply LMem.tail)) rfl) ?_
            refine TO.p (DP.fa 1 rfl Tryd.underlying36 rfl rfl sz34) ?_
            refine TO.p (DP.fa 1 rfl Tryd.underlying34 rfl rfl sz9) ?_
            refine TO.d (D.ldR (v := str t.a.f) rfl pl9 (by (repeat first | exact LMem.head _ _ | apply LMem.tail)) rfl) ?_
            refine TO.p (DP.mv (by conv => lhs; whnf)) ?_
            refine TO.p (DP.bdL (vs := [(0, _), (1, _), (2, _)]) (us := nearV ⟨t.a.fa, t.a.f, now⟩) ⟨rfl, rfl, rfl, rfl, rfl, rfl, trivial⟩ pc40 zr40 rfl) ?_
            refine TO.n (N.bsL (len := 1) (vs := [(0, _)]) (us := nearV ⟨t.a.fa, t.a.f, now⟩) ⟨rfl, rfl, trivial⟩ Tryd.underlying32 sz40 zr40 rfl (by omega) rfl) ?_
            rintro _ _ ⟨b85, rfl, rfl⟩
            refine TO.n (N.app rfl rfl Tryd.underlying32 sz40 by40 zr40 rfl rfl (by (repeat first | exact Del.head _ _ | apply Del.tail)) (Src.sl (news := nearV ⟨t.a.fa, t.a.f, now⟩) Tryd.underlying32 (by rfl) (by (repeat first | exact LMem.head _ _ | apply LMem.tail)) (ReadsN.cells (fun i v hv => by simpa using hv))) (nearV_one ⟨t.a.fa, t.a.f, now⟩) (by omega)) ?_
            rintro u86 _ rfl
            refine TO.p (DP.as (by conv => lhs; whnf)) ?_
            refine TO.nil ?_
            refine TQ.nn ?_
            refine T.seq ?_
            refine T.reg ?_
            refine TO.p (DP.mv (by conv => lhs; whnf)) ?_
            refine TO.p (DP.mv (by conv => lhs; whnf)) ?_
            refine TO.p (DP.eql (a := (takeE (qL n (life + 1)) w t.a now).2.2.2) (b := 0) rfl rfl) ?_
            refine TO.pB (DP.mv (by conv => lhs; whnf)) (fun hg90 => ?_) (fun hg90 => ?_)
            · refine TO.onP rfl (DP.fa 1 rfl Tryd.underlying36 rfl rfl sz34) ?_
              refine TO.onP rfl (DP.fa 4 rfl Tryd.underlying34 rfl rfl sz26) ?_
              refine TO.onD rfl (D.ldR (v := .int .u32 t.a.ta) rfl pl26 (by (repeat first | exact LMem.head _ _ | apply LMem.tail)) rfl) ?_
              refine TO.onP rfl (DP.mv (by conv => lhs; whnf)) ?_
              refine TO.onP rfl (DP.eql (a := t.a.ta) (b := 167772161) rfl rfl) ?_
              refine TO.p (DP.pkT rfl (by conv => lhs; whnf)) ?_
              refine TO.pB (DP.mv (by conv => lhs; whnf)) (fun hg97 => ?_) (fun hg97 => ?_)
              · refine TO.onP rfl (DP.fa 1 rfl Tryd.underlying36 rfl rfl sz34) ?_
                refine TO.onP rfl (DP.fa 0 rfl Tryd.underlying34 rfl rfl sz22) ?_
                refine TO.onD rfl (D.ldR (v := .int .u16 t.a.op) rfl pl22 (by (repeat first | exact LMem.head _ _ | apply LMem.tail)) rfl) ?_
                refine TO.onP rfl ((by first | exact DP.eql (b := 1) rfl rfl | exact DP.eqlI rfl rfl)) ?_
                refine TO.p (DP.pkT rfl (by conv => lhs; whnf)) ?_
                refine TO.p (DP.to (v' := .bool false) (DP.bneq rfl rfl Tryd.underlying4) (by rw [take_is hL1]; simp only [decide_eq_true hg90, decide_eq_true (show t.a.ta = (qL n (life + 1)).addr from hg97), Bool.true_and, Bool.false_and, beq_self_eq_true, Bool.not_true])) ?_
                refine TO.p (DP.mv (by conv => lhs; whnf)) ?_
                refine TO.onP rfl (DP.mv (by conv => lhs; whnf)) ?_
                refine TO.onb rfl (DP.mv (by conv => lhs; whnf)) (fun hg106 => ?_) (fun hg106 => ?_)
                · have hans := take_ans hg106
                  refine TO.onP rfl (DP.fa 3 rfl Tryd.underlying34 rfl rfl sz9) ?_
                  refine TO.onD rfl (D.ldR (v := str (takeE (qL n (life + 1)) w t.a now).2.1.t) rfl pl9 (by (repeat first | exact LMem.head _ _ | apply LMem.tail)) rfl) ?_
                  refine TO.onP rfl (DP.fa 1 rfl Tryd.underlying36 rfl rfl sz34) ?_
                  refine TO.onP rfl (DP.fa 1 rfl Tryd.underlying34 rfl rfl sz9) ?_
                  refine TO.onD rfl (D.ldR (v := str t.a.f) rfl pl9 (by (repeat first | exact LMem.head _ _ | apply LMem.tail)) rfl) ?_
                  refine TO.onP rfl (DP.to (v' := .bool false) (DP.tneq (l := (takeE (qL n (life + 1)) w t.a now).2.1.t) (m := t.a.f) rfl rfl) (by rw [hans]; simp)) ?_
                  refine TO.onP rfl (DP.mv (by conv => lhs; whnf)) ?_
                  refine TO.onP rfl (DP.fa 4 rfl Tryd.underlying34 rfl rfl sz26) ?_
                  refine TO.onD rfl (D.ldR (v := .int .u32 (takeE (qL n (life + 1)) w t.a now).2.1.ta) rfl pl26 (by (repeat first | exact LMem.head _ _ | apply LMem.tail)) rfl) ?_
                  refine TO.onP rfl (DP.fa 1 rfl Tryd.underlying36 rfl rfl sz34) ?_
                  refine TO.onP rfl (DP.fa 2 rfl Tryd.underlying34 rfl rfl sz26) ?_
                  refine TO.onD rfl (D.ldR (v := .int .u32 t.a.fa) rfl pl26 (by (repeat first | exact LMem.head _ _ | apply LMem.tail)) rfl) ?_
                  refine TO.onP rfl (DP.to (v' := .bool false) (DP.neq (a := (takeE (qL n (life + 1)) w t.a now).2.1.ta) (b := t.a.fa) rfl rfl) (by rw [hans]; simp)) ?_
                  refine TO.onP rfl (DP.pkF rfl (by conv => lhs; whnf)) ?_
                  refine TO.onP rfl (DP.mv (by conv => lhs; whnf)) ?_
                  refine TO.onP rfl (DP.fa 2 rfl Tryd.underlying34 rfl rfl sz26) ?_
                  refine TO.onD rfl (D.ldR (v := .int .u32 (takeE (qL n (life + 1)) w t.a now).2.1.fa) rfl pl26 (by (repeat first | exact LMem.head _ _ | apply LMem.tail)) rfl) ?_
                  refine TO.onP rfl (DP.mv (by conv => lhs; whnf)) ?_
                  refine TO.onP rfl (DP.to (v' := .bool false) (DP.neq (a := (takeE (qL n (life + 1)) w t.a now).2.1.fa) (b := 167772161) rfl rfl) (by rw [hans]; simp [qL])) ?_
                  refine TO.onP rfl (DP.pkF rfl (by conv => lhs; whnf)) ?_
                  refine TO.onP rfl (DP.pkT rfl (by conv => lhs; whnf)) ?_
                  refine TO.p (DP.pkF rfl (by conv => lhs; whnf)) ?_
                  refine TO.nil ?_
                  refine TQ.nn ?_
                  refine T.condF rfl ?_
                  refine T.skip ?_
                  refine TQ.bn ?_
                  refine TQ.cn ((takeE (qL n (life + 1)) w t.a now).1, vt2, (said ++ [(⟨t.a.fa, t.a.f, now⟩ : Nr)]), u86) rfl ?_ ?_ ?_
                  · (repeat first | exact trivial | refine ⟨rfl, ?_⟩)
                  · exact ⟨hL1.take hc4, by simp; omega⟩
                  · (dsimp only; (try simp only [List.length_append, List.flatMap_append, List.flatMap_singleton, List.length_singleton]); (refine Ent.imp ?_; repeat first | exact Imp.refl _ | exact Imp.nil _ | (apply Imp.pull; focus ((repeat first | exact Del.head _ _ | apply Del.tail); done)) | (apply Imp.row; focus ((repeat first | exact Del.head _ _ | apply Del.tail); done)) | apply Imp.drop))
                · refine TO.off rfl rfl ?_
                  refine TO.off rfl rfl ?_
                  refine TO.off rfl rfl ?_
                  refine TO.off rfl rfl ?_
                  refine TO.off rfl rfl ?_
                  refine TO.off rfl rfl ?_
                  refine TO.off rfl rfl ?_
                  refine TO.offU rfl ?_
                  refine TO.offU rfl ?_
                  refine TO.offU rfl ?_
                  refine TO.offU rfl ?_
                  refine TO.offU rfl ?_
                  refine TO.offU rfl ?_
                  refine TO.off rfl rfl ?_
                  refine TO.off rfl rfl ?_
                  refine TO.offU rfl ?_
                  refine TO.offU rfl ?_
                  refine TO.offU rfl ?_
                  refine TO.offU rfl ?_
                  refine TO.off rfl rfl ?_
                  refine TO.onP rfl (DP.pkF rfl (by conv => lhs; whnf)) ?_
                  refine TO.p (DP.pkF rfl (by conv => lhs; whnf)) ?_
                  refine TO.nil ?_
                  refine TQ.nn ?_
                  refine T.condF rfl ?_
                  refine T.skip ?_
                  refine TQ.bn ?_
                  refine TQ.cn ((takeE (qL n (life + 1)) w t.a now).1, vt2, (said ++ [(⟨t.a.fa, t.a.f, now⟩ : Nr)]), u86) rfl ?_ ?_ ?_
                  · (repeat first | exact trivial | refine ⟨rfl, ?_⟩)
                  · exact ⟨hL1.take hc4, by simp; omega⟩
                  · (dsimp only; (try simp only [List.length_append, List.flatMap_append, List.flatMap_singleton, List.length_singleton]); (refine Ent.imp ?_; repeat first | exact Imp.refl _ | exact Imp.nil _ | (apply Imp.pull; focus ((repeat first | exact Del.head _ _ | apply Del.tail); done)) | (apply Imp.row; focus ((repeat first | exact Del.head _ _ | apply Del.tail); done)) | apply Imp.drop))
              · refine TO.off rfl rfl ?_
                refine TO.off rfl rfl ?_
                refine TO.off rfl rfl ?_
                refine TO.off rfl rfl ?_
                refine TO.p (DP.pkF rfl (by conv => lhs; whnf)) ?_
                refine TO.p (DP.to (v' := .bool false) (DP.bneq rfl rfl Tryd.underlying4) (by rw [take_is hL1]; simp only [decide_eq_true hg90, decide_eq_false (show ¬ t.a.ta = (qL n (life + 1)).addr from hg97), Bool.true_and, Bool.false_and, beq_self_eq_true, Bool.not_true])) ?_
                refine TO.p (DP.mv (by conv => lhs; whnf)) ?_
                refine TO.onP rfl (DP.mv (by conv => lhs; whnf)) ?_
                refine TO.onb rfl (DP.mv (by conv => lhs; whnf)) (fun hg106 => ?_) (fun hg106 => ?_)
                · have hans := take_ans hg106
                  refine TO.onP rfl (DP.fa 3 rfl Tryd.underlying34 rfl rfl sz9) ?_
                  refine TO.onD rfl (D.ldR (v := str (takeE (qL n (life + 1)) w t.a now).2.1.t) rfl pl9 (by (repeat first | exact LMem.head _ _ | apply LMem.tail)) rfl) ?_
                  refine TO.onP rfl (DP.fa 1 rfl Tryd.underlying36 rfl rfl sz34) ?_
                  refine TO.onP rfl (DP.fa 1 rfl Tryd.underlying34 rfl rfl sz9) ?_
                  refine TO.onD rfl (D.ldR (v := str t.a.f) rfl pl9 (by (repeat first | exact LMem.head _ _ | apply LMem.tail)) rfl) ?_
                  refine TO.onP rfl (DP.to (v' := .bool false) (DP.tneq (l := (takeE (qL n (life + 1)) w t.a now).2.1.t) (m := t.a.f) rfl rfl) (by rw [hans]; simp)) ?_
                  refine TO.onP rfl (DP.mv (by conv => lhs; whnf)) ?_
                  refine TO.onP rfl (DP.fa 4 rfl Tryd.underlying34 rfl rfl sz26) ?_
                  refine TO.onD rfl (D.ldR (v := .int .u32 (takeE (qL n (life + 1)) w t.a now).2.1.ta) rfl pl26 (by (repeat first | exact LMem.head _ _ | apply LMem.tail)) rfl) ?_
                  refine TO.onP rfl (DP.fa 1 rfl Tryd.underlying36 rfl rfl sz34) ?_
                  refine TO.onP rfl (DP.fa 2 rfl Tryd.underlying34 rfl rfl sz26) ?_
                  refine TO.onD rfl (D.ldR (v := .int .u32 t.a.fa) rfl pl26 (by (repeat first | exact LMem.head _ _ | apply LMem.tail)) rfl) ?_
                  refine TO.onP rfl (DP.to (v' := .bool false) (DP.neq (a := (takeE (qL n (life + 1)) w t.a now).2.1.ta) (b := t.a.fa) rfl rfl) (by rw [hans]; simp)) ?_
                  refine TO.onP rfl (DP.pkF rfl (by conv => lhs; whnf)) ?_
                  refine TO.onP rfl (DP.mv (by conv => lhs; whnf)) ?_
                  refine TO.onP rfl (DP.fa 2 rfl Tryd.underlying34 rfl rfl sz26) ?_
                  refine TO.onD rfl (D.ldR (v := .int .u32 (takeE (qL n (life + 1)) w t.a now).2.1.fa) rfl pl26 (by (repeat first | exact LMem.head _ _ | apply LMem.tail)) rfl) ?_
                  refine TO.onP rfl (DP.mv (by conv => lhs; whnf)) ?_
                  refine TO.onP rfl (DP.to (v' := .bool false) (DP.neq (a := (takeE (qL n (life + 1)) w t.a now).2.1.fa) (b := 167772161) rfl rfl) (by rw [hans]; simp [qL])) ?_
                  refine TO.onP rfl (DP.pkF rfl (by conv => lhs; whnf)) ?_
                  refine TO.onP rfl (DP.pkT rfl (by conv => lhs; whnf)) ?_
                  refine TO.p (DP.pkF rfl (by conv => lhs; whnf)) ?_
                  refine TO.nil ?_
                  refine TQ.nn ?_
                  refine T.condF rfl ?_
                  refine T.skip ?_
                  refine TQ.bn ?_
                  refine TQ.cn ((takeE (qL n (life + 1)) w t.a now).1, vt2, (said ++ [(⟨t.a.fa, t.a.f, now⟩ : Nr)]), u86) rfl ?_ ?_ ?_
                  · (repeat first | exact trivial | refine ⟨rfl, ?_⟩)
                  · exact ⟨hL1.take hc4, by simp; omega⟩
                  · (dsimp only; (try simp only [List.length_append, List.flatMap_append, List.flatMap_singleton, List.length_singleton]); (refine Ent.imp ?_; repeat first | exact Imp.refl _ | exact Imp.nil _ | (apply Imp.pull; focus ((repeat first | exact Del.head _ _ | apply Del.tail); done)) | (apply Imp.row; focus ((repeat first | exact Del.head _ _ | apply Del.tail); done)) | apply Imp.drop))
                · refine TO.off rfl rfl ?_
                  refine TO.off rfl rfl ?_
                  refine TO.off rfl rfl ?_
                  refine TO.off rfl rfl ?_
                  refine TO.off rfl rfl ?_
                  refine TO.off rfl rfl ?_
                  refine TO.off rfl rfl ?_
                  refine TO.offU rfl ?_
                  refine TO.offU rfl ?_
                  refine TO.offU rfl ?_
                  refine TO.offU rfl ?_
                  refine TO.offU rfl ?_
                  refine TO.offU rfl ?_
                  refine TO.off rfl rfl ?_
                  refine TO.off rfl rfl ?_
                  refine TO.offU rfl ?_
                  refine TO.offU rfl ?_
                  refine TO.offU rfl ?_
                  refine TO.offU rfl ?_
                  refine TO.off rfl rfl ?_
                  refine TO.onP rfl (DP.pkF rfl (by conv => lhs; whnf)) ?_
                  refine TO.p (DP.pkF rfl (by conv => lhs; whnf)) ?_
                  refine TO.nil ?_
                  refine TQ.nn ?_
                  refine T.condF rfl ?_
                  refine T.skip ?_
                  refine TQ.bn ?_
                  refine TQ.cn ((takeE (qL n (life + 1)) w t.a now).1, vt2, (said ++ [(⟨t.a.fa, t.a.f, now⟩ : Nr)]), u86) rfl ?_ ?_ ?_
                  · (repeat first | exact trivial | refine ⟨rfl, ?_⟩)
                  · exact ⟨hL1.take hc4, by simp; omega⟩
                  · (dsimp only; (try simp only [List.length_append, List.flatMap_append, List.flatMap_singleton, List.length_singleton]); (refine Ent.imp ?_; repeat first | exact Imp.refl _ | exact Imp.nil _ | (apply Imp.pull; focus ((repeat first | exact Del.head _ _ | apply Del.tail); done)) | (apply Imp.row; focus ((repeat first | exact Del.head _ _ | apply Del.tail); done)) | apply Imp.drop))
            · exact absurd hc4 hg90
          · refine T.skip ?_
            refine TQ.nn ?_
            refine T.seq ?_
            refine T.reg ?_
            refine TO.p (DP.mv (by conv => lhs; whnf)) ?_
            refine TO.p (DP.mv (by conv => lhs; whnf)) ?_
            refine TO.p (DP.eql (a := (takeE (qL n (life + 1)) w t.a now).2.2.2) (b := 0) rfl rfl) ?_
            refine TO.pB (DP.mv (by conv => lhs; whnf)) (fun hg90 => ?_) (fun hg90 => ?_)
            · exact absurd hg90 hc4
            · refine TO.off rfl rfl ?_
              refine TO.off rfl rfl ?_
              refine TO.off rfl rfl ?_
              refine TO.off rfl rfl ?_
              refine TO.off rfl rfl ?_
              refine TO.p (DP.pkF rfl (by conv => lhs; whnf)) ?_
              refine TO.p (DP.mv (by conv => lhs; whnf)) ?_
              refine TO.off rfl rfl ?_
              refine TO.off rfl rfl ?_
              refine TO.off rfl rfl ?_
              refine TO.off rfl rfl ?_
              refine TO.p (DP.pkF rfl (by conv => lhs; whnf)) ?_
              refine TO.p (DP.to (v' := .bool false) (DP.bneq rfl rfl Tryd.underlying4) (by rw [take_is hL1]; simp only [decide_eq_false hg90, Bool.true_and, Bool.false_and, beq_self_eq_true, Bool.not_true])) ?_
              refine TO.p (DP.mv (by conv => lhs; whnf)) ?_
              refine TO.onP rfl (DP.mv (by conv => lhs; whnf)) ?_
              refine TO.onb rfl (DP.mv (by conv => lhs; whnf)) (fun hg106 => ?_) (fun hg106 => ?_)
              · have hans := take_ans hg106
                refine TO.onP rfl (DP.fa 3 rfl Tryd.underlying34 rfl rfl sz9) ?_
                refine TO.onD rfl (D.ldR (v := str (takeE (qL n (life + 1)) w t.a now).2.1.t) rfl pl9 (by (repeat first | exact LMem.head _ _ | apply LMem.tail)) rfl) ?_
                refine TO.onP rfl (DP.fa 1 rfl Tryd.underlying36 rfl rfl sz34) ?_
                refine TO.onP rfl (DP.fa 1 rfl Tryd.underlying34 rfl rfl sz9) ?_
                refine TO.onD rfl (D.ldR (v := str t.a.f) rfl pl9 (by (repeat first | exact LMem.head _ _ | apply LMem.tail)) rfl) ?_
                refine TO.onP rfl (DP.to (v' := .bool false) (DP.tneq (l := (takeE (qL n (life + 1)) w t.a now).2.1.t) (m := t.a.f) rfl rfl) (by rw [hans]; simp)) ?_
                refine TO.onP rfl (DP.mv (by conv => lhs; whnf)) ?_
                refine TO.onP rfl (DP.fa 4 rfl Tryd.underlying34 rfl rfl sz26) ?_
                refine TO.onD rfl (D.ldR (v := .int .u32 (takeE (qL n (life + 1)) w t.a now).2.1.ta) rfl pl26 (by (repeat first | exact LMem.head _ _ | apply LMem.tail)) rfl) ?_
                refine TO.onP rfl (DP.fa 1 rfl Tryd.underlying36 rfl rfl sz34) ?_
                refine TO.onP rfl (DP.fa 2 rfl Tryd.underlying34 rfl rfl sz26) ?_
                refine TO.onD rfl (D.ldR (v := .int .u32 t.a.fa) rfl pl26 (by (repeat first | exact LMem.head _ _ | apply LMem.tail)) rfl) ?_
                refine TO.onP rfl (DP.to (v' := .bool false) (DP.neq (a := (takeE (qL n (life + 1)) w t.a now).2.1.ta) (b := t.a.fa) rfl rfl) (by rw [hans]; simp)) ?_
                refine TO.onP rfl (DP.pkF rfl (by conv => lhs; whnf)) ?_
                refine TO.onP rfl (DP.mv (by conv => lhs; whnf)) ?_
                refine TO.onP rfl (DP.fa 2 rfl Tryd.underlying34 rfl rfl sz26) ?_
                refine TO.onD rfl (D.ldR (v := .int .u32 (takeE (qL n (life + 1)) w t.a now).2.1.fa) rfl pl26 (by (repeat first | exact LMem.head _ _ | apply LMem.tail)) rfl) ?_
                refine TO.onP rfl (DP.mv (by conv => lhs; whnf)) ?_
                refine TO.onP rfl (DP.to (v' := .bool false) (DP.neq (a := (takeE (qL n (life + 1)) w t.a now).2.1.fa) (b := 167772161) rfl rfl) (by rw [hans]; simp [qL])) ?_
                refine TO.onP rfl (DP.pkF rfl (by conv => lhs; whnf)) ?_
                refine TO.onP rfl (DP.pkT rfl (by conv => lhs; whnf)) ?_
                refine TO.p (DP.pkF rfl (by conv => lhs; whnf)) ?_
                refine TO.nil ?_
                refine TQ.nn ?_
                refine T.condF rfl ?_
                refine T.skip ?_
                refine TQ.bn ?_
                refine TQ.cn ((takeE (qL n (life + 1)) w t.a now).1, vt2, said, vs) rfl ?_ ?_ ?_
                · (repeat first | exact trivial | refine ⟨rfl, ?_⟩)
                · exact ⟨hL1.untake hc4, Nat.le_succ_of_le hsl0⟩
                · (dsimp only; (try simp only [List.length_append, List.flatMap_append, List.flatMap_singleton, List.length_singleton]); (refine Ent.imp ?_; repeat first | exact Imp.refl _ | exact Imp.nil _ | (apply Imp.pull; focus ((repeat first | exact Del.head _ _ | apply Del.tail); done)) | (apply Imp.row; focus ((repeat first | exact Del.head _ _ | apply Del.tail); done)) | apply Imp.drop))
              · refine TO.off rfl rfl ?_
                refine TO.off rfl rfl ?_
                refine TO.off rfl rfl ?_
                refine TO.off rfl rfl ?_
                refine TO.off rfl rfl ?_
                refine TO.off rfl rfl ?_
                refine TO.off rfl rfl ?_
                refine TO.offU rfl ?_
                refine TO.offU rfl ?_
                refine TO.offU rfl ?_
                refine TO.offU rfl ?_
                refine TO.offU rfl ?_
                refine TO.offU rfl ?_
                refine TO.off rfl rfl ?_
                refine TO.off rfl rfl ?_
                refine TO.offU rfl ?_
                refine TO.offU rfl ?_
                refine TO.offU rfl ?_
                refine TO.offU rfl ?_
                refine TO.off rfl rfl ?_
                refine TO.onP rfl (DP.pkF rfl (by conv => lhs; whnf)) ?_
                refine TO.p (DP.pkF rfl (by conv => lhs; whnf)) ?_
                refine TO.nil ?_
                refine TQ.nn ?_
                refine T.condF rfl ?_
                refine T.skip ?_
                refine TQ.bn ?_
                refine TQ.cn ((takeE (qL n (life + 1)) w t.a now).1, vt2, said, vs) rfl ?_ ?_ ?_
                · (repeat first | exact trivial | refine ⟨rfl, ?_⟩)
                · exact ⟨hL1.untake hc4, Nat.le_succ_of_le hsl0⟩
                · (dsimp only; (try simp only [List.length_append, List.flatMap_append, List.flatMap_singleton, List.length_singleton]); (refine Ent.imp ?_; repeat first | exact Imp.refl _ | exact Imp.nil _ | (apply Imp.pull; focus ((repeat first | exact Del.head _ _ | apply Del.tail); done)) | (apply Imp.row; focus ((repeat first | exact Del.head _ _ | apply Del.tail); done)) | apply Imp.drop))
        · refine T.seq ?_
          refine T.reg ?_
          refine TO.p (DP.eqlI rfl rfl) ?_
          refine TO.p (DP.as (by conv => lhs; whnf)) ?_
          refine TO.nil ?_
          refine TQ.nn ?_
          refine T.condD rfl (fun hc6 => ?_) (fun hc6 => ?_)
          · refine T.seq ?_
            refine T.reg ?_
            refine TO.p (DP.mv (by conv => lhs; whnf)) ?_
            refine TO.p (DP.fa 6 rfl Tryd.underlying36 rfl rfl sz26) ?_
            refine TO.d (D.ldR (v := .int .u32 t.addr) rfl pl26 (by (repeat first | exact LMem.head _ _ | apply LMem.tail)) rfl) ?_
            refine TO.p (DP.fa 7 rfl Tryd.underlying36 rfl rfl sz9) ?_
            refine TO.d (D.ldR (v := str t.mac) rfl pl9 (by (repeat first | exact LMem.head _ _ | apply LMem.tail)) rfl) ?_
            refine TO.p (DP.mv (by conv => lhs; whnf)) ?_
            refine TO.n (N.callF (learn_spec (qL n (life + 1)) w vt p (by omega) t.addr t.mac now hq hL1.srt k6 (by omega)) Tryd.call12 ⟨rfl, rfl, rfl, rfl, trivial⟩ (by (repeat first | exact Pick.nil _ | (apply Pick.cons; focus ((repeat first | exact Del.head _ _ | apply Del.tail); done))))) ?_
            rintro u137 _ ⟨_, ⟨rfl, vt2, rfl⟩, rfl⟩
            try simp only [List.cons_append, List.nil_append]
            refine TO.p (DP.eql (a := (learnE (qL n (life + 1)) w t.addr t.mac now).2) (b := 0) rfl rfl) ?_
            refine TO.nil ?_
            refine TQ.nn ?_
            refine T.condD rfl (fun hc7 => ?_) (fun hc7 => ?_)
            · refine T.reg ?_
              refine TO.p (DP.mv (by conv => lhs; whnf)) ?_
              refine TO.p (DP.fa 6 rfl Tryd.underlying36 rfl rfl sz26) ?_
              refine TO.d (D.ldR (v := .int .u32 t.addr) rfl pl26 (by (repeat first | exact LMem.head _ _ | apply LMem.tail)) rfl) ?_
              refine TO.p (DP.fa 7 rfl Tryd.underlying36 rfl rfl sz9) ?_
              refine TO.d (D.ldR (v := str t.mac) rfl pl9 (by (repeat first | exact LMem.head _ _ | apply LMem.tail)) rfl) ?_
              refine TO.p (DP.mv (by conv => lhs; whnf)) ?_
              refine TO.p (DP.bdL (vs := [(0, _), (1, _), (2, _)]) (us := nearV ⟨t.addr, t.mac, now⟩) ⟨rfl, rfl, rfl, rfl, rfl, rfl, trivial⟩ pc40 zr40 rfl) ?_
              refine TO.n (N.bsL (len := 1) (vs := [(0, _)]) (us := nearV ⟨t.addr, t.mac, now⟩) ⟨rfl, rfl, trivial⟩ Tryd.underlying32 sz40 zr40 rfl (by omega) rfl) ?_
              rintro _ _ ⟨b146, rfl, rfl⟩
              refine TO.n (N.app rfl rfl Tryd.underlying32 sz40 by40 zr40 rfl rfl (by (repeat first | exact Del.head _ _ | apply Del.tail)) (Src.sl (news := nearV ⟨t.addr, t.mac, now⟩) Tryd.underlying32 (by rfl) (by (repeat first | exact LMem.head _ _ | apply LMem.tail)) (ReadsN.cells (fun i v hv => by simpa using hv))) (nearV_one ⟨t.addr, t.mac, now⟩) (by omega)) ?_
              rintro u147 _ rfl
              refine TO.p (DP.as (by conv => lhs; whnf)) ?_
              refine TO.nil ?_
              refine TQ.bn ?_
              refine TQ.cn ((learnE (qL n (life + 1)) w t.addr t.mac now).1, vt2, (said ++ [(⟨t.addr, t.mac, now⟩ : Nr)]), u147) rfl ?_ ?_ ?_
              · (repeat first | exact trivial | refine ⟨rfl, ?_⟩)
              · exact ⟨(hL1.say _ _).learn (by simp), by simp; omega⟩
              · (dsimp only; (try simp only [List.length_append, List.flatMap_append, List.flatMap_singleton, List.length_singleton]); (refine Ent.imp ?_; repeat first | exact Imp.refl _ | exact Imp.nil _ | (apply Imp.pull; focus ((repeat first | exact Del.head _ _ | apply Del.tail); done)) | (apply Imp.row; focus ((repeat first | exact Del.head _ _ | apply Del.tail); done)) | apply Imp.drop))
            · refine T.skip ?_
              refine TQ.bn ?_
              refine TQ.cn ((learnE (qL n (life + 1)) w t.addr t.mac now).1, vt2, said, vs) rfl ?_ ?_ ?_
              · (repeat first | exact trivial | refine ⟨rfl, ?_⟩)
              · exact ⟨hL1.unlearn hc7, Nat.le_succ_of_le hsl0⟩
              · (dsimp only; (try simp only [List.length_append, List.flatMap_append, List.flatMap_singleton, List.length_singleton]); (refine Ent.imp ?_; repeat first | exact Imp.refl _ | exact Imp.nil _ | (apply Imp.pull; focus ((repeat first | exact Del.head _ _ | apply Del.tail); done)) | (apply Imp.row; focus ((repeat first | exact Del.head _ _ | apply Del.tail); done)) | apply Imp.drop))
          · refine T.skip ?_
            refine TQ.bn ?_
            refine TQ.cn (w, vt, said, vs) rfl ?_ ?_ ?_
            · (repeat first | exact trivial | refine ⟨rfl, ?_⟩)
            · exact ⟨hL1, Nat.le_succ_of_le hsl0⟩
            · (dsimp only; (try simp only [List.length_append, List.flatMap_append, List.flatMap_singleton, List.length_singleton]); (refine Ent.imp ?_; repeat first | exact Imp.refl _ | exact Imp.nil _ | (apply Imp.pull; focus ((repeat first | exact Del.head _ _ | apply Del.tail); done)) | (apply Imp.row; focus ((repeat first | exact Del.head _ _ | apply Del.tail); done)) | apply Imp.drop))
      rintro ⟨w2, vt2, said2, vs2⟩ g ⟨hLI, hsl⟩
      try dsimp only
      refine T.seq ?_
      have hw64b : w2.length ≤ 64 := by have h5 : w2.length ≤ n := hLI.len; omega
      have hn62 : now < 4611686018427387904 := by omega
      have hw3 := near_len w2 now
      have hLN := hLI.near now
      refine T.reg ?_
      refine TO.p (DP.mv (by conv => lhs; whnf)) ?_
      refine TO.p (DP.mv (by conv => lhs; whnf)) ?_
      refine TO.n (N.callF (near_spec (qL n (life + 1)) w2 vt2 p (by omega) now) Tryd.call13 ⟨rfl, rfl, trivial⟩ (by (repeat first | exact Pick.nil _ | (apply Pick.cons; focus ((repeat first | exact Del.head _ _ | apply Del.tail); done))))) ?_
      rintro u150 _ ⟨_, ⟨vt3, rfl⟩, rfl⟩
      try simp only [List.cons_append, List.nil_append]
      refine TO.p (DP.as (by conv => lhs; whnf)) ?_
      refine TO.nil ?_
      refine TQ.nn ?_
      refine T.seq ?_
      refine T.seq ?_
      refine T.reg ?_
      refine TO.p (DP.mv (by conv => lhs; whnf)) ?_
      refine TO.d (D.lenO (by conv => lhs; whnf) Tryd.underlying32 (by (repeat first | exact LMem.head _ _ | apply LMem.tail))) ?_
      refine TO.p (DP.mv (by conv => lhs; whnf)) ?_
      refine TO.p (DP.to (v' := .bool false) (DP.gtr (a := (nearE w2 now).length) (b := n) rfl rfl) (by have h5 : (nearE w2 now).length ≤ n := hLN.len; simp; omega)) ?_
      refine TO.nil ?_
      refine TQ.nn ?_
      refine T.condF rfl ?_
      refine T.skip ?_
      refine TQ.nn ?_
      refine T.seq ?_
      refine T.reg ?_
      refine TO.p (DP.as (by conv => lhs; whnf)) ?_
      refine TO.nil ?_
      refine TQ.nn ?_
      refine T.block ?_
      refine T.loop (S := Nat × Value) (0, vt3) (fun ⟨k, vt4⟩ => [(1, .int .u16 (life : Nat)), (2, v), (7, .int .i64 (n : Nat)), (8, .int .u32 (167772161 : Nat)), (9, .pointer (some ⟨p, 0, none⟩)), (13, .int .i64 (i : Nat)), (11, .int .u64 (now : Nat)), (12, vs2), (14, .pointer (some ⟨b14, 0, none⟩)), (18, u150), (19, .int .i64 (k : Nat))]) (fun ⟨k, vt4⟩ => old h :: row 36 b14 (stepV t) :: row 64 p (tabV (qL n (life + 1)) vt4) :: sl 40 3 vt4 (nearE w2 now).length ((nearE w2 now).flatMap nearV) :: sl 40 3 u150 (nearE w2 now).length ((nearE w2 now).flatMap nearV) :: sl 40 3 vs2 (said2).length ((said2).flatMap nearV) :: R) (fun ⟨k, vt4⟩ => k ≤ (nearE w2 now).length) (fun ⟨k, vt4⟩ => (nearE w2 now).length - k) ?_ ?_ ?_ ?_
      · (repeat first | exact trivial | refine ⟨rfl, ?_⟩)
      · exact Nat.zero_le _
      · (dsimp only; (refine Ent.imp ?_; repeat first | exact Imp.refl _ | exact Imp.nil _ | (apply Imp.pull; focus ((repeat first | exact Del.head _ _ | apply Del.tail); done)) | (apply Imp.row; focus ((repeat first | exact Del.head _ _ | apply Del.tail); done)) | apply Imp.drop))
      rintro ⟨k, vt4⟩ g hI
      try dsimp only
      refine T.seq ?_
      refine T.seq ?_
      refine T.reg ?_
      refine TO.p (DP.mv (by conv => lhs; whnf)) ?_
      refine TO.p (DP.mv (by conv => lhs; whnf)) ?_
      refine TO.d (D.lenO (by conv => lhs; whnf) Tryd.underlying32 (by (repeat first | exact LMem.head _ _ | apply LMem.tail))) ?_
      refine TO.p ((by first | exact DP.lss rfl rfl | exact DP.lssI rfl rfl)) ?_
      refine TO.nil ?_
      refine TQ.nn ?_
      refine T.condD rfl (fun hc9 => ?_) (fun hc9 => ?_)
      · obtain ⟨s, hk⟩ := get_some (l := nearE w2 now) (i := k) (by omega)
        have hmk := mem_of_get hk
        have hlk := near_look hn62 hLI.srt hmk
        obtain ⟨hal, hao2⟩ := hLN.al s hmk
        have hun := near_until hn62 hmk
        have hsml : s.m.length = 6 := by simp [aloneE] at hal; exact hal.1.1
        obtain ⟨y, hys, hya, hym, hyu⟩ := hLN.wit s hmk
        obtain ⟨j0, hj0⟩ := List.mem_iff_getElem?.1 hys
        have hj0l : j0 < said2.length := by rcases Nat.lt_or_ge j0 said2.length with h5 | h5; exact h5; rw [List.getElem?_eq_none h5] at hj0; cases hj0
        have hyn := hLN.le y hys
        refine T.skip ?_
        refine TQ.nn ?_
        refine T.seq ?_
        refine T.block ?_
        refine T.seq ?_
        refine T.reg ?_
        refine TO.p (DP.mv (by conv => lhs; whnf)) ?_
        refine TO.p (DP.mv (by conv => lhs; whnf)) ?_
        refine TO.p (DP.mv (by conv => lhs; whnf)) ?_
        refine TO.d (D.iasO (i := k) rfl rfl Tryd.underlying32 sz40 (by (repeat first | exact LMem.head _ _ | apply LMem.tail)) (by omega)) ?_
        refine TO.d (D.faO 0 (i := k) (by conv => lhs; whnf) Tryd.underlying40 rfl rfl sz26 (by (repeat first | exact LMem.head _ _ | apply LMem.tail)) (by omega)) ?_
        refine TO.d (D.ldOF (i := k) (u := .int .u32 s.a) (by conv => lhs; whnf) pl26 (by (repeat first | exact LMem.head _ _ | apply LMem.tail)) (flat_elem nearV_len hk 0 _ rfl) (by omega)) ?_
        refine TO.p (DP.mv (by conv => lhs; whnf)) ?_
        refine TO.n (N.callF (look_spec (qL n (life + 1)) (nearE w2 now) vt4 p (by omega) s.a now hLN.srt) Tryd.call14 ⟨rfl, rfl, rfl, trivial⟩ (by (repeat first | exact Pick.nil _ | (apply Pick.cons; focus ((repeat first | exact Del.head _ _ | apply Del.tail); done))))) ?_
        rintro u169 _ ⟨_, ⟨rfl, vt5, rfl⟩, rfl⟩
        try simp only [List.cons_append, List.nil_append]
        refine TO.p (DP.mv (by conv => lhs; whnf)) ?_
        rw [hlk]
        refine TO.p (DP.ex rfl rfl) ?_
        refine TO.p (DP.ex rfl rfl) ?_
        refine TO.p (DP.as (by conv => lhs; whnf)) ?_
        refine TO.p (DP.as (by conv => lhs; whnf)) ?_
        refine TO.nil ?_
        refine TQ.nn ?_
        refine T.seq ?_
        refine T.seq ?_
        refine T.drawL [] mixed (by repeat first | exact Calm.rt | apply Calm.t | apply Calm.b | apply Calm.l | apply Calm.ct) ?_
        refine TR.p 0 rfl (by kernel_rfl) (DP.mv (by conv => lhs; whnf)) ?_
        refine TR.p 1 rfl (by kernel_rfl) (DP.to (v' := .bool false) (DP.neq (a := 0) (b := 0) rfl rfl) (by simp)) ?_
        refine TR.p 2 rfl (by kernel_rfl) (DP.mv (by conv => lhs; whnf)) ?_
        refine TR.pon 3 rfl (by kernel_rfl) rfl (DP.mv (by conv => lhs; whnf)) ?_
        refine TR.pon 4 rfl (by kernel_rfl) rfl (DP.mv (by conv => lhs; whnf)) ?_
        refine TR.pon 5 rfl (by kernel_rfl) rfl (DP.mv (by conv => lhs; whnf)) ?_
        refine TR.don 6 rfl (by kernel_rfl) (by kernel_rfl) (by (refine Ent.imp ?_; repeat first | exact Imp.refl _ | exact Imp.nil _ | (apply Imp.pull; focus ((repeat first | exact Del.head _ _ | apply Del.tail); done)) | (apply Imp.row; focus ((repeat first | exact Del.head _ _ | apply Del.tail); done)) | apply Imp.drop)) rfl (D.iasO (i := k) rfl rfl Tryd.underlying32 sz40 (by (repeat first | exact LMem.head _ _ | apply LMem.tail)) (by omega)) ?_
        refine TR.don 7 rfl (by kernel_rfl) (by kernel_rfl) (by (refine Ent.imp ?_; repeat first | exact Imp.refl _ | exact Imp.nil _ | (apply Imp.pull; focus ((repeat first | exact Del.head _ _ | apply Del.tail); done)) | (apply Imp.row; focus ((repeat first | exact Del.head _ _ | apply Del.tail); done)) | apply Imp.drop)) rfl (D.faO 1 (i := k) (by conv => lhs; whnf) Tryd.underlying40 rfl rfl sz9 (by (repeat first | exact LMem.head _ _ | apply LMem.tail)) (by omega)) ?_
        refine TR.don 8 rfl (by kernel_rfl) (by kernel_rfl) (by (refine Ent.imp ?_; repeat first | exact Imp.refl _ | exact Imp.nil _ | (apply Imp.pull; focus ((repeat first | exact Del.head _ _ | apply Del.tail); done)) | (apply Imp.row; focus ((repeat first | exact Del.head _ _ | apply Del.tail); done)) | apply Imp.drop)) rfl (D.ldOF (i := k) (u := str s.m) (by conv => lhs; whnf) pl9 (by (repeat first | exact LMem.head _ _ | apply LMem.tail)) (flat_elem nearV_len hk 1 _ rfl) (by omega)) ?_
        refine TR.pon 9 rfl (by kernel_rfl) rfl (DP.to (v' := .bool false) (DP.tneq (l := s.m) (m := s.m) rfl rfl) (by simp)) ?_
        refine TR.p 10 rfl (by kernel_rfl) (DP.pkF rfl (by conv => lhs; whnf)) ?_
        refine TR.p 11 rfl (by kernel_rfl) (DP.mv (by conv => lhs; whnf)) ?_
        refine TR.pon 12 rfl (by kernel_rfl) rfl (DP.mv (by conv => lhs; whnf)) ?_
        refine TR.non 13 (by kernel_rfl) rfl rfl (N.callF (ralone_spec s.m (by omega)) Tryd.call15 ⟨rfl, trivial⟩ (by (repeat first | exact Pick.nil _ | (apply Pick.cons; focus ((repeat first | exact Del.head _ _ | apply Del.tail); done))))) ?_
        rintro u185 _ ⟨_, ⟨rfl, rfl⟩, rfl⟩
        try simp only [List.cons_append, List.nil_append]
        refine ⟨.inr (by (refine Ent.imp ?_; repeat first | exact Imp.refl _ | exact Imp.nil _ | (apply Imp.pull; focus ((repeat first | exact Del.head _ _ | apply Del.tail); done)) | (apply Imp.row; focus ((repeat first | exact Del.head _ _ | apply Del.tail); done)) | apply Imp.drop)), ?_⟩
        refine TR.pon 14 rfl (by kernel_rfl) rfl (DP.to (v' := .bool false) (DP.not rfl) (by rw [hal]; rfl)) ?_
        refine TR.p 15 rfl (by kernel_rfl) (DP.pkF rfl (by conv => lhs; whnf)) ?_
        refine TR.p 16 rfl (by kernel_rfl) (DP.mv (by conv => lhs; whnf)) ?_
        refine TR.pon 17 rfl (by kernel_rfl) rfl (DP.mv (by conv => lhs; whnf)) ?_
        refine TR.pon 18 rfl (by kernel_rfl) rfl (DP.mv (by conv => lhs; whnf)) ?_
        refine TR.don 19 rfl (by kernel_rfl) (by kernel_rfl) (by (refine Ent.imp ?_; repeat first | exact Imp.refl _ | exact Imp.nil _ | (apply Imp.pull; focus ((repeat first | exact Del.head _ _ | apply Del.tail); done)) | (apply Imp.row; focus ((repeat first | exact Del.head _ _ | apply Del.tail); done)) | apply Imp.drop)) rfl (D.iasO (i := k) rfl rfl Tryd.underlying32 sz40 (by (repeat first | exact LMem.head _ _ | apply LMem.tail)) (by omega)) ?_
        refine TR.don 20 rfl (by kernel_rfl) (by kernel_rfl) (by (refine Ent.imp ?_; repeat first | exact Imp.refl _ | exact Imp.nil _ | (apply Imp.pull; focus ((repeat first | exact Del.head _ _ | apply Del.tail); done)) | (apply Imp.row; focus ((repeat first | exact Del.head _ _ | apply Del.tail); done)) | apply Imp.drop)) rfl (D.faO 0 (i := k) (by conv => lhs; whnf) Tryd.underlying40 rfl rfl sz26 (by (repeat first | exact LMem.head _ _ | apply LMem.tail)) (by omega)) ?_
        refine TR.don 21 rfl (by kernel_rfl) (by kernel_rfl) (by (refine Ent.imp ?_; repeat first | exact Imp.refl _ | exact Imp.nil _ | (apply Imp.pull; focus ((repeat first | exact Del.head _ _ | apply Del.tail); done)) | (apply Imp.row; focus ((repeat first | exact Del.head _ _ | apply Del.tail); done)) | apply Imp.drop)) rfl (D.ldOF (i := k) (u := .int .u32 s.a) (by conv => lhs; whnf) pl26 (by (repeat first | exact LMem.head _ _ | apply LMem.tail)) (flat_elem nearV_len hk 0 _ rfl) (by omega)) ?_
        refine TR.pon 22 rfl (by kernel_rfl) rfl (DP.mv (by conv => lhs; whnf)) ?_
        refine TR.pon 23 rfl (by kernel_rfl) rfl (DP.to (v' := .bool false) (DP.eql (a := s.a) (b := 167772161) rfl rfl) (by rw [decide_eq_false (show ¬ s.a = 167772161 from hao2)])) ?_
        refine TR.p 24 rfl (by kernel_rfl) (DP.pkF rfl (by conv => lhs; whnf)) ?_
        refine TR.p 25 rfl (by kernel_rfl) (DP.mv (by conv => lhs; whnf)) ?_
        refine TR.pon 26 rfl (by kernel_rfl) rfl (DP.mv (by conv => lhs; whnf)) ?_
        refine TR.pon 27 rfl (by kernel_rfl) rfl (DP.gtr (a := k) (b := 0) rfl rfl) ?_
        refine TR.ponB 28 rfl (by kernel_rfl) rfl (DP.mv (by conv => lhs; whnf)) (fun hg200 => ?_) (fun hg200 => ?_)
        · obtain ⟨s5, hk5⟩ := get_some (l := nearE w2 now) (i := k - 1) (by omega)
          have hlt5 := srt_lt hLN.srt (show k - 1 < k by omega) hk5 hk
          refine TR.pon 29 rfl (by kernel_rfl) rfl (DP.mv (by conv => lhs; whnf)) ?_
          refine TR.pon 30 rfl (by kernel_rfl) rfl (DP.mv (by conv => lhs; whnf)) ?_
          refine TR.pon 31 rfl (by kernel_rfl) rfl (DP.sub (a := k) (b := 1) rfl rfl (l := 9223372036854775808) rfl (by omega) (by omega)) ?_
          refine TR.don 32 rfl (by kernel_rfl) (by kernel_rfl) (by (refine Ent.imp ?_; repeat first | exact Imp.refl _ | exact Imp.nil _ | (apply Imp.pull; focus ((repeat first | exact Del.head _ _ | apply Del.tail); done)) | (apply Imp.row; focus ((repeat first | exact Del.head _ _ | apply Del.tail); done)) | apply Imp.drop)) rfl (D.iasO (i := (k - 1)) rfl rfl Tryd.underlying32 sz40 (by (repeat first | exact LMem.head _ _ | apply LMem.tail)) (by omega)) ?_
          refine TR.don 33 rfl (by kernel_rfl) (by kernel_rfl) (by (refine Ent.imp ?_; repeat first | exact Imp.refl _ | exact Imp.nil _ | (apply Imp.pull; focus ((repeat first | exact Del.head _ _ | apply Del.tail); done)) | (apply Imp.row; focus ((repeat first | exact Del.head _ _ | apply Del.tail); done)) | apply Imp.drop)) rfl (D.faO 0 (i := (k - 1)) (by conv => lhs; whnf) Tryd.underlying40 rfl rfl sz26 (by (repeat first | exact LMem.head _ _ | apply LMem.tail)) (by omega)) ?_
          refine TR.don 34 rfl (by kernel_rfl) (by kernel_rfl) (by (refine Ent.imp ?_; repeat first | exact Imp.refl _ | exact Imp.nil _ | (apply Imp.pull; focus ((repeat first | exact Del.head _ _ | apply Del.tail); done)) | (apply Imp.row; focus ((repeat first | exact Del.head _ _ | apply Del.tail); done)) | apply Imp.drop)) rfl (D.ldOF (i := (k - 1)) (u := .int .u32 s5.a) (by conv => lhs; whnf) pl26 (by (repeat first | exact LMem.head _ _ | apply LMem.tail)) (flat_elem nearV_len hk5 0 _ rfl) (by omega)) ?_
          refine TR.pon 35 rfl (by kernel_rfl) rfl (DP.mv (by conv => lhs; whnf)) ?_
          refine TR.pon 36 rfl (by kernel_rfl) rfl (DP.mv (by conv => lhs; whnf)) ?_
          refine TR.don 37 rfl (by kernel_rfl) (by kernel_rfl) (by (refine Ent.imp ?_; repeat first | exact Imp.refl _ | exact Imp.nil _ | (apply Imp.pull; focus ((repeat first | exact Del.head _ _ | apply Del.tail); done)) | (apply Imp.row; focus ((repeat first | exact Del.head _ _ | apply Del.tail); done)) | apply Imp.drop)) rfl (D.iasO (i := k) rfl rfl Tryd.underlying32 sz40 (by (repeat first | exact LMem.head _ _ | apply LMem.tail)) (by omega)) ?_
          refine TR.don 38 rfl (by kernel_rfl) (by kernel_rfl) (by (refine Ent.imp ?_; repeat first | exact Imp.refl _ | exact Imp.nil _ | (apply Imp.pull; focus ((repeat first | exact Del.head _ _ | apply Del.tail); done)) | (apply Imp.row; focus ((repeat first | exact Del.head _ _ | apply Del.tail); done)) | apply Imp.drop)) rfl (D.faO 0 (i := k) (by conv => lhs; whnf) Tryd.underlying40 rfl rfl sz26 (by (repeat first | exact LMem.head _ _ | apply LMem.tail)) (by omega)) ?_
          refine TR.don 39 rfl (by kernel_rfl) (by kernel_rfl) (by (refine Ent.imp ?_; repeat first | exact Imp.refl _ | exact Imp.nil _ | (apply Imp.pull; focus ((repeat first | exact Del.head _ _ | apply Del.tail); done)) | (apply Imp.row; focus ((repeat first | exact Del.head _ _ | apply Del.tail); done)) | apply Imp.drop)) rfl (D.ldOF (i := k) (u := .int .u32 s.a) (by conv => lhs; whnf) pl26 (by (repeat first | exact LMem.head _ _ | apply LMem.tail)) (flat_elem nearV_len hk 0 _ rfl) (by omega)) ?_
          refine TR.pon 40 rfl (by kernel_rfl) rfl (DP.to (v' := .bool false) (DP.geq (a := s5.a) (b := s.a) rfl rfl) (by simp; omega)) ?_
          refine TR.pon 41 rfl (by kernel_rfl) rfl (DP.pkT rfl (by conv => lhs; whnf)) ?_
          refine TR.p 42 rfl (by kernel_rfl) (DP.pkF rfl (by conv => lhs; whnf)) ?_
          refine TR.done (by kernel_rfl) ?_
          refine TQ.nn ?_
          refine T.condF rfl ?_
          refine T.skip ?_
          refine TQ.nn ?_
          refine T.seq ?_
          refine T.reg ?_
          refine TO.p (DP.as (by conv => lhs; whnf)) ?_
          refine TO.nil ?_
          refine TQ.nn ?_
          refine T.seq ?_
          refine T.seq ?_
          refine T.reg ?_
          refine TO.p (DP.as (by conv => lhs; whnf)) ?_
          refine TO.nil ?_
          refine TQ.nn ?_
          refine T.block ?_
          refine T.loop (S := Nat × Int) (0, -1) (fun ⟨b, last⟩ => [(1, .int .u16 (life : Nat)), (2, v), (7, .int .i64 (n : Nat)), (8, .int .u32 (167772161 : Nat)), (9, .pointer (some ⟨p, 0, none⟩)), (13, .int .i64 (i : Nat)), (11, .int .u64 (now : Nat)), (12, vs2), (14, .pointer (some ⟨b14, 0, none⟩)), (18, u150), (19, .int .i64 (k : Nat)), (20, str s.m), (22, .int .i64 last), (23, .int .i64 (b : Nat))]) (fun ⟨b, last⟩ => old h :: row 36 b14 (stepV t) :: row 64 p (tabV (qL n (life + 1)) vt5) :: sl 40 3 vt5 (nearE w2 now).length ((nearE w2 now).flatMap nearV) :: sl 40 3 u150 (nearE w2 now).length ((nearE w2 now).flatMap nearV) :: sl 40 3 vs2 (said2).length ((said2).flatMap nearV) :: R) (fun ⟨b, last⟩ => b ≤ said2.length ∧ (∀ (j : Nat) (z : Nr), j < b → said2[j]? = some z → z.a = s.a → z.m = s.m → (j : Int) ≤ last) ∧ (last = -1 ∨ ∃ j : Nat, last = (j : Int) ∧ j < b)) (fun ⟨b, last⟩ => said2.length - b) ?_ ?_ ?_ ?_
          · (repeat first | exact trivial | refine ⟨rfl, ?_⟩)
          · exact ⟨Nat.zero_le _, fun j z h5 => absurd h5 (Nat.not_lt_zero _), .inl rfl⟩
          · (dsimp only; (refine Ent.imp ?_; repeat first | exact Imp.refl _ | exact Imp.nil _ | (apply Imp.pull; focus ((repeat first | exact Del.head _ _ | apply Del.tail); done)) | (apply Imp.row; focus ((repeat first | exact Del.head _ _ | apply Del.tail); done)) | apply Imp.drop))
          rintro ⟨b, last⟩ g ⟨hb1, hb2, hb3⟩
          try dsimp only
          refine T.seq ?_
          refine T.seq ?_
          refine T.reg ?_
          refine TO.p (DP.mv (by conv => lhs; whnf)) ?_
          refine TO.p (DP.mv (by conv => lhs; whnf)) ?_
          refine TO.d (D.lenO (by conv => lhs; whnf) Tryd.underlying32 (by (repeat first | exact LMem.head _ _ | apply LMem.tail))) ?_
          refine TO.p ((by first | exact DP.lss rfl rfl | exact DP.lssI rfl rfl)) ?_
          refine TO.nil ?_
          refine TQ.nn ?_
          refine T.condD rfl (fun hc11 => ?_) (fun hc11 => ?_)
          · obtain ⟨z, hz⟩ := get_some (l := said2) (i := b) (by omega)
            refine T.skip ?_
            refine TQ.nn ?_
            refine T.seq ?_
            refine T.block ?_
            refine T.seq ?_
            refine T.drawL [] mixed (by repeat first | exact Calm.rt | apply Calm.t | apply Calm.b | apply Calm.l | apply Calm.ct) ?_
            refine TR.p 0 rfl (by kernel_rfl) (DP.mv (by conv => lhs; whnf)) ?_
            refine TR.p 1 rfl (by kernel_rfl) (DP.mv (by conv => lhs; whnf)) ?_
            refine TR.d 2 rfl (by kernel_rfl) (by kernel_rfl) (by (refine Ent.imp ?_; repeat first | exact Imp.refl _ | exact Imp.nil _ | (apply Imp.pull; focus ((repeat first | exact Del.head _ _ | apply Del.tail); done)) | (apply Imp.row; focus ((repeat first | exact Del.head _ _ | apply Del.tail); done)) | apply Imp.drop)) (D.iasO (i := b) rfl rfl Tryd.underlying32 sz40 (by (repeat first | exact LMem.head _ _ | apply LMem.tail)) (by omega)) ?_
            refine TR.d 3 rfl (by kernel_rfl) (by kernel_rfl) (by (refine Ent.imp ?_; repeat first | exact Imp.refl _ | exact Imp.nil _ | (apply Imp.pull; focus ((repeat first | exact Del.head _ _ | apply Del.tail); done)) | (apply Imp.row; focus ((repeat first | exact Del.head _ _ | apply Del.tail); done)) | apply Imp.drop)) (D.faO 0 (i := b) (by conv => lhs; whnf) Tryd.underlying40 rfl rfl sz26 (by (repeat first | exact LMem.head _ _ | apply LMem.tail)) (by omega)) ?_
            refine TR.d 4 rfl (by kernel_rfl) (by kernel_rfl) (by (refine Ent.imp ?_; repeat first | exact Imp.refl _ | exact Imp.nil _ | (apply Imp.pull; focus ((repeat first | exact Del.head _ _ | apply Del.tail); done)) | (apply Imp.row; focus ((repeat first | exact Del.head _ _ | apply Del.tail); done)) | apply Imp.drop)) (D.ldOF (i := b) (u := .int .u32 z.a) (by conv => lhs; whnf) pl26 (by (repeat first | exact LMem.head _ _ | apply LMem.tail)) (flat_elem nearV_len hz 0 _ rfl) (by omega)) ?_
            refine TR.p 5 rfl (by kernel_rfl) (DP.mv (by conv => lhs; whnf)) ?_
            refine TR.p 6 rfl (by kernel_rfl) (DP.mv (by conv => lhs; whnf)) ?_
            refine TR.d 7 rfl (by kernel_rfl) (by kernel_rfl) (by (refine Ent.imp ?_; repeat first | exact Imp.refl _ | exact Imp.nil _ | (apply Imp.pull; focus ((repeat first | exact Del.head _ _ | apply Del.tail); done)) | (apply Imp.row; focus ((repeat first | exact Del.head _ _ | apply Del.tail); done)) | apply Imp.drop)) (D.iasO (i := k) rfl rfl Tryd.underlying32 sz40 (by (repeat first | exact LMem.head _ _ | apply LMem.tail)) (by omega)) ?_
            refine TR.d 8 rfl (by kernel_rfl) (by kernel_rfl) (by (refine Ent.imp ?_; repeat first | exact Imp.refl _ | exact Imp.nil _ | (apply Imp.pull; focus ((repeat first | exact Del.head _ _ | apply Del.tail); done)) | (apply Imp.row; focus ((repeat first | exact Del.head _ _ | apply Del.tail); done)) | apply Imp.drop)) (D.faO 0 (i := k) (by conv => lhs; whnf) Tryd.underlying40 rfl rfl sz26 (by (repeat first | exact LMem.head _ _ | apply LMem.tail)) (by omega)) ?_
            refine TR.d 9 rfl (by kernel_rfl) (by kernel_rfl) (by (refine Ent.imp ?_; repeat first | exact Imp.refl _ | exact Imp.nil _ | (apply Imp.pull; focus ((repeat first | exact Del.head _ _ | apply Del.tail); done)) | (apply Imp.row; focus ((repeat first | exact Del.head _ _ | apply Del.tail); done)) | apply Imp.drop)) (D.ldOF (i := k) (u := .int .u32 s.a) (by conv => lhs; whnf) pl26 (by (repeat first | exact LMem.head _ _ | apply LMem.tail)) (flat_elem nearV_len hk 0 _ rfl) (by omega)) ?_
            refine TR.p 10 rfl (by kernel_rfl) (DP.eql (a := z.a) (b := s.a) rfl rfl) ?_
            refine TR.pB 11 rfl (by kernel_rfl) (DP.mv (by conv => lhs; whnf)) (fun hg232 => ?_) (fun hg232 => ?_)
            · refine TR.pon 12 rfl (by kernel_rfl) rfl (DP.mv (by conv => lhs; whnf)) ?_
              refine TR.pon 13 rfl (by kernel_rfl) rfl (DP.mv (by conv => lhs; whnf)) ?_
              refine TR.don 14 rfl (by kernel_rfl) (by kernel_rfl) (by (refine Ent.imp ?_; repeat first | exact Imp.refl _ | exact Imp.nil _ | (apply Imp.pull; focus ((repeat first | exact Del.head _ _ | apply Del.tail); done)) | (apply Imp.row; focus ((repeat first | exact Del.head _ _ | apply Del.tail); done)) | apply Imp.drop)) rfl (D.iasO (i := b) rfl rfl Tryd.underlying32 sz40 (by (repeat first | exact LMem.head _ _ | apply LMem.tail)) (by omega)) ?_
              refine TR.don 15 rfl (by kernel_rfl) (by kernel_rfl) (by (refine Ent.imp ?_; repeat first | exact Imp.refl _ | exact Imp.nil _ | (apply Imp.pull; focus ((repeat first | exact Del.head _ _ | apply Del.tail); done)) | (apply Imp.row; focus ((repeat first | exact Del.head _ _ | apply Del.tail); done)) | apply Imp.drop)) rfl (D.faO 1 (i := b) (by conv => lhs; whnf) Tryd.underlying40 rfl rfl sz9 (by (repeat first | exact LMem.head _ _ | apply LMem.tail)) (by omega)) ?_
              refine TR.don 16 rfl (by kernel_rfl) (by kernel_rfl) (by (refine Ent.imp ?_; repeat first | exact Imp.refl _ | exact Imp.nil _ | (apply Imp.pull; focus ((repeat first | exact Del.head _ _ | apply Del.tail); done)) | (apply Imp.row; focus ((repeat first | exact Del.head _ _ | apply Del.tail); done)) | apply Imp.drop)) rfl (D.ldOF (i := b) (u := str z.m) (by conv => lhs; whnf) pl9 (by (repeat first | exact LMem.head _ _ | apply LMem.tail)) (flat_elem nearV_len hz 1 _ rfl) (by omega)) ?_
              refine TR.pon 17 rfl (by kernel_rfl) rfl (DP.mv (by conv => lhs; whnf)) ?_
              refine TR.pon 18 rfl (by kernel_rfl) rfl (DP.teql (l := z.m) (m := s.m) rfl rfl) ?_
              refine TR.p 19 rfl (by kernel_rfl) (DP.pkT rfl (by conv => lhs; whnf)) ?_
              refine TR.done (by kernel_rfl) ?_
              refine TQ.nn ?_
              refine T.condD rfl (fun hc12 => ?_) (fun hc12 => ?_)
              · refine T.reg ?_
                refine TO.p (DP.mv (by conv => lhs; whnf)) ?_
                refine TO.p (DP.as (by conv => lhs; whnf)) ?_
                refine TO.nil ?_
                refine TQ.bn ?_
                refine TQ.nn ?_
                refine T.reg ?_
                refine TO.p (DP.mv (by conv => lhs; whnf)) ?_
                refine TO.p ((by first | exact DP.add (b := 1) rfl rfl (l := 9223372036854775808) rfl (by omega) | exact DP.addX rfl rfl)) ?_
                refine TO.p (DP.as (by conv => lhs; whnf)) ?_
                refine TO.nil ?_
                refine TQ.round (b + 1, (b : Int)) rfl ?_ ?_ ?_ ?_
                · (repeat first | exact trivial | refine ⟨rfl, ?_⟩)
                · (refine ⟨by omega, fun j z h5 h6 h7 h8 => ?_, ?_⟩; (first | omega | ((try dsimp only); omega)); exact .inr ⟨b, rfl, Nat.lt_succ_self _⟩)
                · ((try dsimp only); omega)
                · ((try dsimp only); (refine Ent.imp ?_; repeat first | exact Imp.refl _ | exact Imp.nil _ | (apply Imp.pull; focus ((repeat first | exact Del.head _ _ | apply Del.tail); done)) | (apply Imp.row; focus ((repeat first | exact Del.head _ _ | apply Del.tail); done)) | apply Imp.drop))
              · refine T.skip ?_
                refine TQ.bn ?_
                refine TQ.nn ?_
                refine T.reg ?_
                refine TO.p (DP.mv (by conv => lhs; whnf)) ?_
                refine TO.p ((by first | exact DP.add (b := 1) rfl rfl (l := 9223372036854775808) rfl (by omega) | exact DP.addX rfl rfl)) ?_
                refine TO.p (DP.as (by conv => lhs; whnf)) ?_
                refine TO.nil ?_
                refine TQ.round (b + 1, last) rfl ?_ ?_ ?_ ?_
                · (repeat first | exact trivial | refine ⟨rfl, ?_⟩)
                · (refine ⟨by omega, fun j z h5 h6 h7 h8 => ?_, ?_⟩; (rcases Nat.lt_or_eq_of_le (Nat.le_of_lt_succ h5) with h9 | h9; exact hb2 j z h9 h6 h7 h8; subst h9; rw [hz] at h6; cases h6; exact absurd h8 hc12); (rcases hb3 with h5 | ⟨j, h5, h6⟩; exact .inl h5; exact .inr ⟨j, h5, by omega⟩))
                · ((try dsimp only); omega)
                · ((try dsimp only); (refine Ent.imp ?_; repeat first | exact Imp.refl _ | exact Imp.nil _ | (apply Imp.pull; focus ((repeat first | exact Del.head _ _ | apply Del.tail); done)) | (apply Imp.row; focus ((repeat first | exact Del.head _ _ | apply Del.tail); done)) | apply Imp.drop))
            · refine TR.off 12 rfl (by kernel_rfl) rfl rfl ?_
              refine TR.off 13 rfl (by kernel_rfl) rfl rfl ?_
              refine TR.off 14 rfl (by kernel_rfl) rfl rfl ?_
              refine TR.off 15 rfl (by kernel_rfl) rfl rfl ?_
              refine TR.off 16 rfl (by kernel_rfl) rfl rfl ?_
              refine TR.off 17 rfl (by kernel_rfl) rfl rfl ?_
              refine TR.off 18 rfl (by kernel_rfl) rfl rfl ?_
              refine TR.p 19 rfl (by kernel_rfl) (DP.pkF rfl (by conv => lhs; whnf)) ?_
              refine TR.done (by kernel_rfl) ?_
              refine TQ.nn ?_
              refine T.condF rfl ?_
              refine T.skip ?_
              refine TQ.bn ?_
              refine TQ.nn ?_
              refine T.reg ?_
              refine TO.p (DP.mv (by conv => lhs; whnf)) ?_
              refine TO.p ((by first | exact DP.add (b := 1) rfl rfl (l := 9223372036854775808) rfl (by omega) | exact DP.addX rfl rfl)) ?_
              refine TO.p (DP.as (by conv => lhs; whnf)) ?_
              refine TO.nil ?_
              refine TQ.round (b + 1, last) rfl ?_ ?_ ?_ ?_
              · (repeat first | exact trivial | refine ⟨rfl, ?_⟩)
              · (refine ⟨by omega, fun j z h5 h6 h7 h8 => ?_, ?_⟩; (rcases Nat.lt_or_eq_of_le (Nat.le_of_lt_succ h5) with h9 | h9; exact hb2 j z h9 h6 h7 h8; subst h9; rw [hz] at h6; cases h6; exact absurd h7 hg232); (rcases hb3 with h5 | ⟨j, h5, h6⟩; exact .inl h5; exact .inr ⟨j, h5, by omega⟩))
              · ((try dsimp only); omega)
              · ((try dsimp only); (refine Ent.imp ?_; repeat first | exact Imp.refl _ | exact Imp.nil _ | (apply Imp.pull; focus ((repeat first | exact Del.head _ _ | apply Del.tail); done)) | (apply Imp.row; focus ((repeat first | exact Del.head _ _ | apply Del.tail); done)) | apply Imp.drop))
          · obtain rfl : b = said2.length := by omega
            have hj9 := hb2 j0 y hj0l hj0 hya hym
            obtain ⟨j, rfl, hjl⟩ : ∃ j : Nat, last = (j : Int) ∧ j < said2.length := by rcases hb3 with h5 | h5; omega; exact h5
            obtain ⟨z, hz⟩ := get_some (l := said2) (i := j) hjl
            have hzu := mono_le hLN.mono (show j0 ≤ j by omega) hj0 hz
            have hzn := hLN.le z (mem_of_get hz)
            have hyu2 : s.u ≤ y.u + (life + 1) := hyu
            refine T.exit ?_
            refine TQ.ne ?_
            refine TQ.le ?_
            refine TQ.be ?_
            refine TQ.nn ?_
            refine T.seq ?_
            refine T.reg ?_
            refine TO.p (DP.mv (by conv => lhs; whnf)) ?_
            refine TO.p (DP.to (v' := .bool false) (DP.lss (a := j) (b := 0) rfl rfl) (by simp)) ?_
            refine TO.p (DP.mv (by conv => lhs; whnf)) ?_
            refine TO.onP rfl (DP.mv (by conv => lhs; whnf)) ?_
            refine TO.onP rfl (DP.mv (by conv => lhs; whnf)) ?_
            refine TO.onD rfl (D.iasO (i := j) rfl rfl Tryd.underlying32 sz40 (by (repeat first | exact LMem.head _ _ | apply LMem.tail)) (by omega)) ?_
            refine TO.onD rfl (D.faO 2 (i := j) (by conv => lhs; whnf) Tryd.underlying40 rfl rfl sz31 (by (repeat first | exact LMem.head _ _ | apply LMem.tail)) (by omega)) ?_
            refine TO.onD rfl (D.ldOF (i := j) (u := .int .u64 z.u) (by conv => lhs; whnf) pl31 (by (repeat first | exact LMem.head _ _ | apply LMem.tail)) (flat_elem nearV_len hz 2 _ rfl) (by omega)) ?_
            refine TO.onP rfl (DP.mv (by conv => lhs; whnf)) ?_
            refine TO.onP rfl (DP.cv rfl is22 Tryd.underlying31 (l := 18446744073709551616) rfl (by omega)) ?_
            refine TO.onP rfl (DP.add (a := z.u) (b := life) rfl rfl (l := 18446744073709551616) rfl (by omega)) ?_
            refine TO.onP rfl (DP.add (a := z.u + life) (b := 1) rfl rfl (l := 18446744073709551616) rfl (by omega)) ?_
            refine TO.onP rfl (DP.mv (by conv => lhs; whnf)) ?_
            refine TO.onP rfl (DP.to (v' := .bool false) (DP.leq (a := z.u + life + 1) (b := now) rfl rfl) (by simp; omega)) ?_
            refine TO.p (DP.pkF rfl (by conv => lhs; whnf)) ?_
            refine TO.nil ?_
            refine TQ.nn ?_
            refine T.condF rfl ?_
            refine T.skip ?_
            refine TQ.bn ?_
            refine TQ.nn ?_
            refine T.reg ?_
            refine TO.p (DP.mv (by conv => lhs; whnf)) ?_
            refine TO.p ((by first | exact DP.add (b := 1) rfl rfl (l := 9223372036854775808) rfl (by omega) | exact DP.addX rfl rfl)) ?_
            refine TO.p (DP.as (by conv => lhs; whnf)) ?_
            refine TO.nil ?_
            refine TQ.round (k + 1, vt5) rfl ?_ ?_ ?_ ?_
            · (repeat first | exact trivial | refine ⟨rfl, ?_⟩)
            · (show k + 1 ≤ _; omega)
            · ((try dsimp only); omega)
            · ((try dsimp only); (refine Ent.imp ?_; repeat first | exact Imp.refl _ | exact Imp.nil _ | (apply Imp.pull; focus ((repeat first | exact Del.head _ _ | apply Del.tail); done)) | (apply Imp.row; focus ((repeat first | exact Del.head _ _ | apply Del.tail); done)) | apply Imp.drop))
        · refine TR.off 29 rfl (by kernel_rfl) rfl rfl ?_
          refine TR.off 30 rfl (by kernel_rfl) rfl rfl ?_
          refine TR.off 31 rfl (by kernel_rfl) rfl rfl ?_
          refine TR.off 32 rfl (by kernel_rfl) rfl rfl ?_
          refine TR.off 33 rfl (by kernel_rfl) rfl rfl ?_
          refine TR.off 34 rfl (by kernel_rfl) rfl rfl ?_
          refine TR.off 35 rfl (by kernel_rfl) rfl rfl ?_
          refine TR.off 36 rfl (by kernel_rfl) rfl rfl ?_
          refine TR.off 37 rfl (by kernel_rfl) rfl rfl ?_
          refine TR.off 38 rfl (by kernel_rfl) rfl rfl ?_
          refine TR.off 39 rfl (by kernel_rfl) rfl rfl ?_
          refine TR.off 40 rfl (by kernel_rfl) rfl rfl ?_
          refine TR.pon 41 rfl (by kernel_rfl) rfl (DP.pkF rfl (by conv => lhs; whnf)) ?_
          refine TR.p 42 rfl (by kernel_rfl) (DP.pkF rfl (by conv => lhs; whnf)) ?_
          refine TR.done (by kernel_rfl) ?_
          refine TQ.nn ?_
          refine T.condF rfl ?_
          refine T.skip ?_
          refine TQ.nn ?_
          refine T.seq ?_
          refine T.reg ?_
          refine TO.p (DP.as (by conv => lhs; whnf)) ?_
          refine TO.nil ?_
          refine TQ.nn ?_
          refine T.seq ?_
          refine T.seq ?_
          refine T.reg ?_
          refine TO.p (DP.as (by conv => lhs; whnf)) ?_
          refine TO.nil ?_
          refine TQ.nn ?_
          refine T.block ?_
          refine T.loop (S := Nat × Int) (0, -1) (fun ⟨b, last⟩ => [(1, .int .u16 (life : Nat)), (2, v), (7, .int .i64 (n : Nat)), (8, .int .u32 (167772161 : Nat)), (9, .pointer (some ⟨p, 0, none⟩)), (13, .int .i64 (i : Nat)), (11, .int .u64 (now : Nat)), (12, vs2), (14, .pointer (some ⟨b14, 0, none⟩)), (18, u150), (19, .int .i64 (k : Nat)), (20, str s.m), (22, .int .i64 last), (23, .int .i64 (b : Nat))]) (fun ⟨b, last⟩ => old h :: row 36 b14 (stepV t) :: row 64 p (tabV (qL n (life + 1)) vt5) :: sl 40 3 vt5 (nearE w2 now).length ((nearE w2 now).flatMap nearV) :: sl 40 3 u150 (nearE w2 now).length ((nearE w2 now).flatMap nearV) :: sl 40 3 vs2 (said2).length ((said2).flatMap nearV) :: R) (fun ⟨b, last⟩ => b ≤ said2.length ∧ (∀ (j : Nat) (z : Nr), j < b → said2[j]? = some z → z.a = s.a → z.m = s.m → (j : Int) ≤ last) ∧ (last = -1 ∨ ∃ j : Nat, last = (j : Int) ∧ j < b)) (fun ⟨b, last⟩ => said2.length - b) ?_ ?_ ?_ ?_
          · (repeat first | exact trivial | refine ⟨rfl, ?_⟩)
          · exact ⟨Nat.zero_le _, fun j z h5 => absurd h5 (Nat.not_lt_zero _), .inl rfl⟩
          · (dsimp only; (refine Ent.imp ?_; repeat first | exact Imp.refl _ | exact Imp.nil _ | (apply Imp.pull; focus ((repeat first | exact Del.head _ _ | apply Del.tail); done)) | (apply Imp.row; focus ((repeat first | exact Del.head _ _ | apply Del.tail); done)) | apply Imp.drop))
          rintro ⟨b, last⟩ g ⟨hb1, hb2, hb3⟩
          try dsimp only
          refine T.seq ?_
          refine T.seq ?_
          refine T.reg ?_
          refine TO.p (DP.mv (by conv => lhs; whnf)) ?_
          refine TO.p (DP.mv (by conv => lhs; whnf)) ?_
          refine TO.d (D.lenO (by conv => lhs; whnf) Tryd.underlying32 (by (repeat first | exact LMem.head _ _ | apply LMem.tail))) ?_
          refine TO.p ((by first | exact DP.lss rfl rfl | exact DP.lssI rfl rfl)) ?_
          refine TO.nil ?_
          refine TQ.nn ?_
          refine T.condD rfl (fun hc11 => ?_) (fun hc11 => ?_)
          · obtain ⟨z, hz⟩ := get_some (l := said2) (i := b) (by omega)
            refine T.skip ?_
            refine TQ.nn ?_
            refine T.seq ?_
            refine T.block ?_
            refine T.seq ?_
            refine T.drawL [] mixed (by repeat first | exact Calm.rt | apply Calm.t | apply Calm.b | apply Calm.l | apply Calm.ct) ?_
            refine TR.p 0 rfl (by kernel_rfl) (DP.mv (by conv => lhs; whnf)) ?_
            refine TR.p 1 rfl (by kernel_rfl) (DP.mv (by conv => lhs; whnf)) ?_
            refine TR.d 2 rfl (by kernel_rfl) (by kernel_rfl) (by (refine Ent.imp ?_; repeat first | exact Imp.refl _ | exact Imp.nil _ | (apply Imp.pull; focus ((repeat first | exact Del.head _ _ | apply Del.tail); done)) | (apply Imp.row; focus ((repeat first | exact Del.head _ _ | apply Del.tail); done)) | apply Imp.drop)) (D.iasO (i := b) rfl rfl Tryd.underlying32 sz40 (by (repeat first | exact LMem.head _ _ | apply LMem.tail)) (by omega)) ?_
            refine TR.d 3 rfl (by kernel_rfl) (by kernel_rfl) (by (refine Ent.imp ?_; repeat first | exact Imp.refl _ | exact Imp.nil _ | (apply Imp.pull; focus ((repeat first | exact Del.head _ _ | apply Del.tail); done)) | (apply Imp.row; focus ((repeat first | exact Del.head _ _ | apply Del.tail); done)) | apply Imp.drop)) (D.faO 0 (i := b) (by conv => lhs; whnf) Tryd.underlying40 rfl rfl sz26 (by (repeat first | exact LMem.head _ _ | apply LMem.tail)) (by omega)) ?_
            refine TR.d 4 rfl (by kernel_rfl) (by kernel_rfl) (by (refine Ent.imp ?_; repeat first | exact Imp.refl _ | exact Imp.nil _ | (apply Imp.pull; focus ((repeat first | exact Del.head _ _ | apply Del.tail); done)) | (apply Imp.row; focus ((repeat first | exact Del.head _ _ | apply Del.tail); done)) | apply Imp.drop)) (D.ldOF (i := b) (u := .int .u32 z.a) (by conv => lhs; whnf) pl26 (by (repeat first | exact LMem.head _ _ | apply LMem.tail)) (flat_elem nearV_len hz 0 _ rfl) (by omega)) ?_
            refine TR.p 5 rfl (by kernel_rfl) (DP.mv (by conv => lhs; whnf)) ?_
            refine TR.p 6 rfl (by kernel_rfl) (DP.mv (by conv => lhs; whnf)) ?_
            refine TR.d 7 rfl (by kernel_rfl) (by kernel_rfl) (by (refine Ent.imp ?_; repeat first | exact Imp.refl _ | exact Imp.nil _ | (apply Imp.pull; focus ((repeat first | exact Del.head _ _ | apply Del.tail); done)) | (apply Imp.row; focus ((repeat first | exact Del.head _ _ | apply Del.tail); done)) | apply Imp.drop)) (D.iasO (i := k) rfl rfl Tryd.underlying32 sz40 (by (repeat first | exact LMem.head _ _ | apply LMem.tail)) (by omega)) ?_
            refine TR.d 8 rfl (by kernel_rfl) (by kernel_rfl) (by (refine Ent.imp ?_; repeat first | exact Imp.refl _ | exact Imp.nil _ | (apply Imp.pull; focus ((repeat first | exact Del.head _ _ | apply Del.tail); done)) | (apply Imp.row; focus ((repeat first | exact Del.head _ _ | apply Del.tail); done)) | apply Imp.drop)) (D.faO 0 (i := k) (by conv => lhs; whnf) Tryd.underlying40 rfl rfl sz26 (by (repeat first | exact LMem.head _ _ | apply LMem.tail)) (by omega)) ?_
            refine TR.d 9 rfl (by kernel_rfl) (by kernel_rfl) (by (refine Ent.imp ?_; repeat first | exact Imp.refl _ | exact Imp.nil _ | (apply Imp.pull; focus ((repeat first | exact Del.head _ _ | apply Del.tail); done)) | (apply Imp.row; focus ((repeat first | exact Del.head _ _ | apply Del.tail); done)) | apply Imp.drop)) (D.ldOF (i := k) (u := .int .u32 s.a) (by conv => lhs; whnf) pl26 (by (repeat first | exact LMem.head _ _ | apply LMem.tail)) (flat_elem nearV_len hk 0 _ rfl) (by omega)) ?_
            refine TR.p 10 rfl (by kernel_rfl) (DP.eql (a := z.a) (b := s.a) rfl rfl) ?_
            refine TR.pB 11 rfl (by kernel_rfl) (DP.mv (by conv => lhs; whnf)) (fun hg232 => ?_) (fun hg232 => ?_)
            · refine TR.pon 12 rfl (by kernel_rfl) rfl (DP.mv (by conv => lhs; whnf)) ?_
              refine TR.pon 13 rfl (by kernel_rfl) rfl (DP.mv (by conv => lhs; whnf)) ?_
              refine TR.don 14 rfl (by kernel_rfl) (by kernel_rfl) (by (refine Ent.imp ?_; repeat first | exact Imp.refl _ | exact Imp.nil _ | (apply Imp.pull; focus ((repeat first | exact Del.head _ _ | apply Del.tail); done)) | (apply Imp.row; focus ((repeat first | exact Del.head _ _ | apply Del.tail); done)) | apply Imp.drop)) rfl (D.iasO (i := b) rfl rfl Tryd.underlying32 sz40 (by (repeat first | exact LMem.head _ _ | apply LMem.tail)) (by omega)) ?_
              refine TR.don 15 rfl (by kernel_rfl) (by kernel_rfl) (by (refine Ent.imp ?_; repeat first | exact Imp.refl _ | exact Imp.nil _ | (apply Imp.pull; focus ((repeat first | exact Del.head _ _ | apply Del.tail); done)) | (apply Imp.row; focus ((repeat first | exact Del.head _ _ | apply Del.tail); done)) | apply Imp.drop)) rfl (D.faO 1 (i := b) (by conv => lhs; whnf) Tryd.underlying40 rfl rfl sz9 (by (repeat first | exact LMem.head _ _ | apply LMem.tail)) (by omega)) ?_
              refine TR.don 16 rfl (by kernel_rfl) (by kernel_rfl) (by (refine Ent.imp ?_; repeat first | exact Imp.refl _ | exact Imp.nil _ | (apply Imp.pull; focus ((repeat first | exact Del.head _ _ | apply Del.tail); done)) | (apply Imp.row; focus ((repeat first | exact Del.head _ _ | apply Del.tail); done)) | apply Imp.drop)) rfl (D.ldOF (i := b) (u := str z.m) (by conv => lhs; whnf) pl9 (by (repeat first | exact LMem.head _ _ | apply LMem.tail)) (flat_elem nearV_len hz 1 _ rfl) (by omega)) ?_
              refine TR.pon 17 rfl (by kernel_rfl) rfl (DP.mv (by conv => lhs; whnf)) ?_
              refine TR.pon 18 rfl (by kernel_rfl) rfl (DP.teql (l := z.m) (m := s.m) rfl rfl) ?_
              refine TR.p 19 rfl (by kernel_rfl) (DP.pkT rfl (by conv => lhs; whnf)) ?_
              refine TR.done (by kernel_rfl) ?_
              refine TQ.nn ?_
              refine T.condD rfl (fun hc12 => ?_) (fun hc12 => ?_)
              · refine T.reg ?_
                refine TO.p (DP.mv (by conv => lhs; whnf)) ?_
                refine TO.p (DP.as (by conv => lhs; whnf)) ?_
                refine TO.nil ?_
                refine TQ.bn ?_
                refine TQ.nn ?_
                refine T.reg ?_
                refine TO.p (DP.mv (by conv => lhs; whnf)) ?_
                refine TO.p ((by first | exact DP.add (b := 1) rfl rfl (l := 9223372036854775808) rfl (by omega) | exact DP.addX rfl rfl)) ?_
                refine TO.p (DP.as (by conv => lhs; whnf)) ?_
                refine TO.nil ?_
                refine TQ.round (b + 1, (b : Int)) rfl ?_ ?_ ?_ ?_
                · (repeat first | exact trivial | refine ⟨rfl, ?_⟩)
                · (refine ⟨by omega, fun j z h5 h6 h7 h8 => ?_, ?_⟩; (first | omega | ((try dsimp only); omega)); exact .inr ⟨b, rfl, Nat.lt_succ_self _⟩)
                · ((try dsimp only); omega)
                · ((try dsimp only); (refine Ent.imp ?_; repeat first | exact Imp.refl _ | exact Imp.nil _ | (apply Imp.pull; focus ((repeat first | exact Del.head _ _ | apply Del.tail); done)) | (apply Imp.row; focus ((repeat first | exact Del.head _ _ | apply Del.tail); done)) | apply Imp.drop))
              · refine T.skip ?_
                refine TQ.bn ?_
                refine TQ.nn ?_
                refine T.reg ?_
                refine TO.p (DP.mv (by conv => lhs; whnf)) ?_
                refine TO.p ((by first | exact DP.add (b := 1) rfl rfl (l := 9223372036854775808) rfl (by omega) | exact DP.addX rfl rfl)) ?_
                refine TO.p (DP.as (by conv => lhs; whnf)) ?_
                refine TO.nil ?_
                refine TQ.round (b + 1, last) rfl ?_ ?_ ?_ ?_
                · (repeat first | exact trivial | refine ⟨rfl, ?_⟩)
                · (refine ⟨by omega, fun j z h5 h6 h7 h8 => ?_, ?_⟩; (rcases Nat.lt_or_eq_of_le (Nat.le_of_lt_succ h5) with h9 | h9; exact hb2 j z h9 h6 h7 h8; subst h9; rw [hz] at h6; cases h6; exact absurd h8 hc12); (rcases hb3 with h5 | ⟨j, h5, h6⟩; exact .inl h5; exact .inr ⟨j, h5, by omega⟩))
                · ((try dsimp only); omega)
                · ((try dsimp only); (refine Ent.imp ?_; repeat first | exact Imp.refl _ | exact Imp.nil _ | (apply Imp.pull; focus ((repeat first | exact Del.head _ _ | apply Del.tail); done)) | (apply Imp.row; focus ((repeat first | exact Del.head _ _ | apply Del.tail); done)) | apply Imp.drop))
            · refine TR.off 12 rfl (by kernel_rfl) rfl rfl ?_
              refine TR.off 13 rfl (by kernel_rfl) rfl rfl ?_
              refine TR.off 14 rfl (by kernel_rfl) rfl rfl ?_
              refine TR.off 15 rfl (by kernel_rfl) rfl rfl ?_
              refine TR.off 16 rfl (by kernel_rfl) rfl rfl ?_
              refine TR.off 17 rfl (by kernel_rfl) rfl rfl ?_
              refine TR.off 18 rfl (by kernel_rfl) rfl rfl ?_
              refine TR.p 19 rfl (by kernel_rfl) (DP.pkF rfl (by conv => lhs; whnf)) ?_
              refine TR.done (by kernel_rfl) ?_
              refine TQ.nn ?_
              refine T.condF rfl ?_
              refine T.skip ?_
              refine TQ.bn ?_
              refine TQ.nn ?_
              refine T.reg ?_
              refine TO.p (DP.mv (by conv => lhs; whnf)) ?_
              refine TO.p ((by first | exact DP.add (b := 1) rfl rfl (l := 9223372036854775808) rfl (by omega) | exact DP.addX rfl rfl)) ?_
              refine TO.p (DP.as (by conv => lhs; whnf)) ?_
              refine TO.nil ?_
              refine TQ.round (b + 1, last) rfl ?_ ?_ ?_ ?_
              · (repeat first | exact trivial | refine ⟨rfl, ?_⟩)
              · (refine ⟨by omega, fun j z h5 h6 h7 h8 => ?_, ?_⟩; (rcases Nat.lt_or_eq_of_le (Nat.le_of_lt_succ h5) with h9 | h9; exact hb2 j z h9 h6 h7 h8; subst h9; rw [hz] at h6; cases h6; exact absurd h7 hg232); (rcases hb3 with h5 | ⟨j, h5, h6⟩; exact .inl h5; exact .inr ⟨j, h5, by omega⟩))
              · ((try dsimp only); omega)
              · ((try dsimp only); (refine Ent.imp ?_; repeat first | exact Imp.refl _ | exact Imp.nil _ | (apply Imp.pull; focus ((repeat first | exact Del.head _ _ | apply Del.tail); done)) | (apply Imp.row; focus ((repeat first | exact Del.head _ _ | apply Del.tail); done)) | apply Imp.drop))
          · obtain rfl : b = said2.length := by omega
            have hj9 := hb2 j0 y hj0l hj0 hya hym
            obtain ⟨j, rfl, hjl⟩ : ∃ j : Nat, last = (j : Int) ∧ j < said2.length := by rcases hb3 with h5 | h5; omega; exact h5
            obtain ⟨z, hz⟩ := get_some (l := said2) (i := j) hjl
            have hzu := mono_le hLN.mono (show j0 ≤ j by omega) hj0 hz
            have hzn := hLN.le z (mem_of_get hz)
            have hyu2 : s.u ≤ y.u + (life + 1) := hyu
            refine T.exit ?_
            refine TQ.ne ?_
            refine TQ.le ?_
            refine TQ.be ?_
            refine TQ.nn ?_
            refine T.seq ?_
            refine T.reg ?_
            refine TO.p (DP.mv (by conv => lhs; whnf)) ?_
            refine TO.p (DP.to (v' := .bool false) (DP.lss (a := j) (b := 0) rfl rfl) (by simp)) ?_
            refine TO.p (DP.mv (by conv => lhs; whnf)) ?_
            refine TO.onP rfl (DP.mv (by conv => lhs; whnf)) ?_
            refine TO.onP rfl (DP.mv (by conv => lhs; whnf)) ?_
            refine TO.onD rfl (D.iasO (i := j) rfl rfl Tryd.underlying32 sz40 (by (repeat first | exact LMem.head _ _ | apply LMem.tail)) (by omega)) ?_
            refine TO.onD rfl (D.faO 2 (i := j) (by conv => lhs; whnf) Tryd.underlying40 rfl rfl sz31 (by (repeat first | exact LMem.head _ _ | apply LMem.tail)) (by omega)) ?_
            refine TO.onD rfl (D.ldOF (i := j) (u := .int .u64 z.u) (by conv => lhs; whnf) pl31 (by (repeat first | exact LMem.head _ _ | apply LMem.tail)) (flat_elem nearV_len hz 2 _ rfl) (by omega)) ?_
            refine TO.onP rfl (DP.mv (by conv => lhs; whnf)) ?_
            refine TO.onP rfl (DP.cv rfl is22 Tryd.underlying31 (l := 18446744073709551616) rfl (by omega)) ?_
            refine TO.onP rfl (DP.add (a := z.u) (b := life) rfl rfl (l := 18446744073709551616) rfl (by omega)) ?_
            refine TO.onP rfl (DP.add (a := z.u + life) (b := 1) rfl rfl (l := 18446744073709551616) rfl (by omega)) ?_
            refine TO.onP rfl (DP.mv (by conv => lhs; whnf)) ?_
            refine TO.onP rfl (DP.to (v' := .bool false) (DP.leq (a := z.u + life + 1) (b := now) rfl rfl) (by simp; omega)) ?_
            refine TO.p (DP.pkF rfl (by conv => lhs; whnf)) ?_
            refine TO.nil ?_
            refine TQ.nn ?_
            refine T.condF rfl ?_
            refine T.skip ?_
            refine TQ.bn ?_
            refine TQ.nn ?_
            refine T.reg ?_
            refine TO.p (DP.mv (by conv => lhs; whnf)) ?_
            refine TO.p ((by first | exact DP.add (b := 1) rfl rfl (l := 9223372036854775808) rfl (by omega) | exact DP.addX rfl rfl)) ?_
            refine TO.p (DP.as (by conv => lhs; whnf)) ?_
            refine TO.nil ?_
            refine TQ.round (k + 1, vt5) rfl ?_ ?_ ?_ ?_
            · (repeat first | exact trivial | refine ⟨rfl, ?_⟩)
            · (show k + 1 ≤ _; omega)
            · ((try dsimp only); omega)
            · ((try dsimp only); (refine Ent.imp ?_; repeat first | exact Imp.refl _ | exact Imp.nil _ | (apply Imp.pull; focus ((repeat first | exact Del.head _ _ | apply Del.tail); done)) | (apply Imp.row; focus ((repeat first | exact Del.head _ _ | apply Del.tail); done)) | apply Imp.drop))
      · refine T.exit ?_
        refine TQ.ne ?_
        refine TQ.le ?_
        refine TQ.be ?_
        refine TQ.bn ?_
        refine TQ.nn ?_
        refine T.reg ?_
        refine TO.p (DP.mv (by conv => lhs; whnf)) ?_
        refine TO.p ((by first | exact DP.add (b := 1) rfl rfl (l := 9223372036854775808) rfl (by omega) | exact DP.addX rfl rfl)) ?_
        refine TO.p (DP.as (by conv => lhs; whnf)) ?_
        refine TO.nil ?_
        refine TQ.round (i + 1, now, nearE w2 now, vt4, said2, vs2) rfl ?_ ?_ ?_ ?_
        · (repeat first | exact trivial | refine ⟨rfl, ?_⟩)
        · (refine ⟨by omega, ?_, hLN, hsl⟩; show now ≤ 16 * (i + 1); omega)
        · (show l.length - (i + 1) < l.length - i; omega)
        · ((try dsimp only); (refine Ent.imp ?_; repeat first | exact Imp.refl _ | exact Imp.nil _ | (apply Imp.pull; focus ((repeat first | exact Del.head _ _ | apply Del.tail); done)) | (apply Imp.row; focus ((repeat first | exact Del.head _ _ | apply Del.tail); done)) | apply Imp.drop))
    · refine T.exit ?_
      refine TQ.ne ?_
      refine TQ.le ?_
      refine TQ.be ?_
      refine TQ.nn ?_
      refine T.seq ?_
      refine T.reg ?_
      refine TO.n (N.callF (works_spec) Tryd.call9 trivial (by (repeat first | exact Pick.nil _ | (apply Pick.cons; focus ((repeat first | exact Del.head _ _ | apply Del.tail); done))))) ?_
      rintro u257 _ ⟨_, ⟨rfl, rfl⟩, rfl⟩
      try simp only [List.cons_append, List.nil_append]
      refine TO.p (DP.as (by conv => lhs; whnf)) ?_
      refine TO.nil ?_
      refine TQ.nn ?_
      refine T.ret ?_
      refine TQ.ret (vs := [.bool true]) (L' := [old h]) rfl ⟨rfl, rfl⟩ ⟨rfl, rfl⟩ (by (refine Ent.imp ?_; repeat first | exact Imp.refl _ | exact Imp.nil _ | (apply Imp.pull; focus ((repeat first | exact Del.head _ _ | apply Del.tail); done)) | (apply Imp.row; focus ((repeat first | exact Del.head _ _ | apply Del.tail); done)) | apply Imp.drop))
end Go.Proofs.YtbandaebilkkkaaDoor
