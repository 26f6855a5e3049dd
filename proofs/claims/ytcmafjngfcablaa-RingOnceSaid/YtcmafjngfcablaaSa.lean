/- Lemmas for the proofs of this seat: no statement of the seat is claimed here. -/
import Derived.Test.YtcmafjngfcablaaKt
set_option linter.all false

namespace Go.Proofs.Ytcmafjngfcablaa
open Go Pw
set_option maxRecDepth 20000
set_option maxHeartbeats 4000000
set_option synthInstance.maxHeartbeats 400000
set_option synthInstance.maxSize 4000
set_option maxHeartbeats 8000000

abbrev spnV (s : Spn) : List Value := [.int .u32 s.1, .int .u32 s.2]
instance : FLen spnV 2 := ⟨fun _ => rfl⟩
instance : FLen spnV (1 + 1) := ⟨fun _ => rfl⟩
theorem spans_eq (ss : List Spn) : spans ss = ss.flatMap spnV := by
  first | rfl | (unfold spans; rfl) | (induction ss with | nil => rfl | cons a l ih => simp_all [spans])
theorem lent_at (p : Nat) (bs : List UInt8) (lt : List Bool) :
    Sat Try.prog 23 [.pointer (some ⟨p, 0, none⟩)] [memA p bs lt] (fun u L' => ∃ ss a k, (∀ s ∈ ss, s.1 + s.2 ≤ 1048576) ∧ ss.length ≤ 1048576 ∧ lt = flags bs.length ss ∧ u = .slice a ss.length k ∧ L' = [memA p bs lt, Pw.sl 73 (1 + 1) (.slice a ss.length k) ss.length (ss.flatMap spnV)]) := fun c R w hw => by
  refine CallsIn.mono (lentA p bs lt c R w hw) ?_
  rintro e w' ⟨v, L', he, ⟨ss, h1, h2, h3, rfl⟩, hw'⟩
  obtain ⟨f1, hf, _⟩ := SLh.mem (LMem.tail (LMem.head _ _)) hw'.2.2.2
  obtain ⟨a, k, rfl⟩ : ∃ a k, v = .slice a ss.length k := by
    rcases hf with ⟨rfl, h0, _⟩ | ⟨b, k, rest, rfl, _⟩
    · exact ⟨none, 0, by rw [h0]⟩
    · exact ⟨_, _, rfl⟩
  rw [spans_eq] at hw'
  have hc := canon_facts h2 h1
  exact ⟨_, _, he, ⟨ss, a, k, hc.2, hc.1, h3, rfl, rfl⟩, hw'⟩
instance {L R : List Assn} {p : Nat} {bs : List UInt8} {lt : List Bool} [hm : MemAt L p bs lt R] : FnR Try.prog 23 [.pointer (some ⟨p, 0, none⟩)] L (fun kk => ∀ ss a k, (∀ s ∈ ss, s.1 + s.2 ≤ 1048576) ∧ ss.length ≤ 1048576 ∧ lt = flags bs.length ss → kk (.slice a ss.length k) (memA p bs lt :: Pw.sl 73 (1 + 1) (.slice a ss.length k) ss.length (ss.flatMap spnV) :: R)) :=
  ⟨fun kk h => ⟨_, R, _, lent_at p bs lt, .cons hm.h (.nil _), fun v L' hv => by obtain ⟨ss, a, k, e1, e2, e3, rfl, rfl⟩ := hv; exact h ss a k ⟨e1, e2, e3⟩⟩⟩
theorem in_yes {ss : List Spn} {i q : Nat} (hi : i < ss.length) (h1 : (gt ss i).1 ≤ q) (h2 : q < (gt ss i).1 + (gt ss i).2) : inS ss q := ⟨_, gt_mem hi, h1, h2⟩
theorem in_no {ss : List Spn} {q : Nat} (h : ∀ j, j < ss.length → ¬ ((gt ss j).1 ≤ q ∧ q < (gt ss j).1 + (gt ss j).2)) : ¬ inS ss q := by
  rintro ⟨s, hs, h1, h2⟩
  obtain ⟨i, hi, rfl⟩ := List.mem_iff_getElem.1 hs
  have e := gt_get hi
  rw [List.getElem?_eq_getElem hi] at e
  have e2 := Option.some.inj e
  rw [e2] at h1 h2
  exact h i hi ⟨h1, h2⟩
/-- The place of a head among those that wait. -/
def posW (W : List Nat) (h : Nat) : Int := if h ∈ W then (W.idxOf h : Nat) else -1
theorem pos_yes {W : List Nat} {i h : Nat} (hi : i < W.length) (e : gt W i = h) (hn : ∀ j, j < i → gt W j ≠ h) : posW W h = (i : Nat) := by
  have hm : h ∈ W := e ▸ gt_mem hi
  unfold posW
  rw [if_pos hm]
  congr 1
  have h1 := List.idxOf_lt_length_of_mem hm
  have h2 : gt W (W.idxOf h) = h := by
    have := gt_get h1
    rw [List.getElem?_eq_getElem h1, List.getElem_idxOf] at this
    exact (Option.some.inj this).symm
  rcases Nat.lt_trichotomy (W.idxOf h) i with h3 | h3 | h3
  · exact absurd h2 (hn _ h3)
  · exact h3
  · exfalso
    have h4 := List.not_of_lt_findIdx (p := (· == h)) (xs := W) (i := i) h3
    have h5 := gt_get hi
    rw [List.getElem?_eq_getElem hi] at h5
    have h6 := Option.some.inj h5
    simp [h6, e] at h4
theorem pos_no {W : List Nat} {h : Nat} (hn : ∀ j, j < W.length → gt W j ≠ h) : posW W h = -1 := by
  unfold posW
  rw [if_neg]
  intro hm
  obtain ⟨i, hi, e⟩ := List.mem_iff_getElem.1 hm
  have h5 := gt_get hi
  rw [List.getElem?_eq_getElem hi] at h5
  exact hn i hi ((Option.some.inj h5).symm.trans e)
theorem Src.inp {P : Program} {c : Ctx} {L : List Assn} {xt e : TypeId} {h : Array Obj} {a : Option Addr} {sz m k : Nat} {news : List Value} (ht : P.underlying xt = some (.slice e)) (hm : LMem (old h) L) (hI : Inp h sz m (.slice a m k) news) : Src P c L sz xt (.slice a m k) m news := by
  rcases Nat.eq_zero_or_pos m with h0 | h0
  · subst h0
    have hn : news = [] := by have := hI.1; rw [Nat.zero_mul] at this; exact List.eq_nil_of_length_eq_zero this
    subst hn
    refine ⟨⟨_, ht, by simp⟩, fun w => by simp [Builtin.lenOf], fun w _ j hj => ?_, by simp⟩
    obtain rfl : j = 0 := by omega
    cases a with
    | none => simp [Builtin.firstCells]
    | some ad => simp [Builtin.firstCells, loadCells, loadCellsFrom]
  · obtain ⟨b, o, cap, e1, hr⟩ := hI.at h0
    cases e1
    exact Src.sl ht hI.1 hm hr
instance (priority := 700) appInp {P : Program} {c : Ctx} {L R : List Assn} {t xt e e' e2 : TypeId} {h : Array Obj} {a a' : Option Addr} {n k m k' sz sz' sz'' by_ : Nat} {xs news ys zs : List Value} {z : Value} {C : Prop} [ht : Und P t (.slice e)] [hxt : Und P xt (.slice e2)] [hz : Sz P e sz] [hb : By P e by_] [hzr : Zr P e z] [hcz : Cel z zs] [hlz : Len zs (sz + 1)]
    [hd : SlAt L (.slice a n k) e' sz' n xs R] [hm : OldB L h] [hI : InpD h a' sz'' m k' news] [ho : OnesL news] [ha : AppV xs news ys C] :
    St P c L (.builtin .append [.slice a n k, .slice a' m k'] [t, xt]) (fun q => Vc (e' = e ∧ sz' = sz + 1 ∧ sz'' = sz + 1 ∧ (n + m) * (by_ + 1) ≤ 140737488355328 ∧ C) (∀ a2 k2, q (.slice a2 (n + m) k2) (Pw.sl e (sz + 1) (.slice a2 (n + m) k2) (n + m) ys :: R))) :=
  ⟨fun r E d op ty pos af g hs q hq => by
    cases hs with | builtin ev =>
    rename_i xs_
    obtain ⟨⟨rfl, rfl, rfl, hlim, hC⟩, hq⟩ := hq
    match xs_, ev with
    | [x, y], ⟨e1, e3, _⟩ =>
      refine (N.app e1 e3 ht.h hz.h hb.h hzr.h (cellsL_eq z) (by rw [hcz.h]; exact hlz.h) hd.h (Src.inp hxt.h hm.h hI.h) ho.h hlim).imp2 fun v L' w h5 hw => ?_
      subst h5
      obtain ⟨a2, k2, rfl⟩ := hw.sl_form
      rw [ha.h hC]
      exact hq a2 k2⟩
theorem imp_b0 {L : List Assn} : Imp L (Pw.sl 37 (2 + 1) (.slice none 0 0) 0 [] :: L) := Imp.slN (Imp.refl L)
theorem in_spec (a : Option Addr) (k q : Nat) (ss : List Spn) (hss : ∀ s ∈ ss, s.1 + s.2 ≤ 1048576) (hl : ss.length ≤ 1048576) (hq : q ≤ 1048576) :
    Sat Try.prog 24 [.slice a ss.length k, .int .i64 q] [Pw.sl 73 (1 + 1) (.slice a ss.length k) ss.length (ss.flatMap spnV)] (fun u L' => u = .bool (decide (inS ss q)) ∧ L' = [Pw.sl 73 (1 + 1) (.slice a ss.length k) ss.length (ss.flatMap spnV)]) := by
  all_goals
    refine Sat.enter Try.func24 rfl Try.ntmps24 rfl (fun c R => ?_)
    try simp only [List.cons_append, List.nil_append]
    repeat' (first
      | (refine T.atB 0 ?_; refine T.lpa 0 [(0, _), (1, _)] (0 : Nat) (fun i => [(5, .int .i64 (i : Nat))]) (fun _ => []) (fun i => i ≤ ss.length ∧ ∀ j, j < i → ¬ ((gt ss j).1 ≤ q ∧ q < (gt ss j).1 + (gt ss j).2)) (fun i => ss.length - i) ⟨Nat.zero_le _, fun j hj => absurd hj (Nat.not_lt_zero j)⟩ ?_; rintro i g ⟨hi, hall⟩; have hb := fun h : i < ss.length => hss _ (gt_mem h); simp only [List.cons_append, List.nil_append, appR])
      | (refine TQ.atL ?_; refine TQ.rd (i + 1 : Nat) rfl ⟨rfl, rfl, rfl, trivial⟩ ⟨by omega, fun j h => (by rcases Nat.lt_or_eq_of_le (Nat.le_of_lt_succ h) with h | h; exact hall j h; subst h; omega)⟩ (by omega) (Ent.imp (by repeat first | exact Imp.refl _ | (apply Imp.pull; focus ((repeat first | exact Del.head _ _ | apply Del.tail); done)) | apply Imp.drop)))
      | (refine finAt ?_; rw [decide_eq_true (in_yes (by assumption) (by omega) (by omega))]; exact Fini.of ⟨rfl, rfl⟩ (by repeat first | exact Imp.refl _ | (apply Imp.pull; focus ((repeat first | exact Del.head _ _ | apply Del.tail); done)) | apply Imp.drop))
      | (refine finAt ?_; obtain rfl : i = ss.length := (by omega); rw [decide_eq_false (in_no hall)]; exact Fini.of ⟨rfl, rfl⟩ (by repeat first | exact Imp.refl _ | (apply Imp.pull; focus ((repeat first | exact Del.head _ _ | apply Del.tail); done)) | apply Imp.drop))
      | refine Pw.LkG.stkg ?_
      | refine T.pl 4 [] (.p 0 (.p 1 (.p 2 (.d 3 (.d 4 (.d 5 (.p 6 (.p 7 (.p 8 (.p 9 (.p 10 (.p 11 (.p 16 (.p 17 (.d 12 (.d 13 (.d 14 (.p 15 (.d 18 (.d 19 (.d 20 (.p 21 (.p 22 (.p 23 (.p 24 .fin))))))))))))))))))))))))) ?_
      | refine And.intro (fun hc => ?_) (fun hc => ?_)
      | refine And.intro ?_ ?_
      | intro b
      | refine stp ?_
      | refine TQ.finC ?_
      | refine TQ.finC2 ?_
      | refine TQ.finC3 ?_
      | refine ⟨fun hc => ?_, fun hc => ?_⟩
      | refine Ei.f ?_
      | refine ⟨?_, ?_⟩
      | intro b
      | exact absurd rfl hc
      | exact absurd hc (by decide)
      | omega
      | (dsimp only; omega)
      | fail)
theorem at_spec (a : Option Addr) (k h : Nat) (W : List Nat) (hl : W.length ≤ 1048576) :
    Sat Try.prog 21 [.slice a W.length k, .int .u16 h] [Pw.sl 32 (0 + 1) (.slice a W.length k) W.length (W.flatMap u16L)] (fun u L' => u = .int .i64 (posW W h) ∧ L' = [Pw.sl 32 (0 + 1) (.slice a W.length k) W.length (W.flatMap u16L)]) := by
  all_goals
    refine Sat.enter Try.func21 rfl Try.ntmps21 rfl (fun c R => ?_)
    try simp only [List.cons_append, List.nil_append]
    repeat' (first
      | (refine T.atB 0 ?_; refine T.lpa 0 [(0, _), (1, _)] (0 : Nat) (fun i => [(5, .int .i64 (i : Nat))]) (fun _ => []) (fun i => i ≤ W.length ∧ ∀ j, j < i → gt W j ≠ h) (fun i => W.length - i) ⟨Nat.zero_le _, fun j hj => absurd hj (Nat.not_lt_zero j)⟩ ?_; rintro i g ⟨hi, hall⟩; simp only [List.cons_append, List.nil_append, appR])
      | (refine TQ.atL ?_; refine TQ.rd (i + 1 : Nat) rfl ⟨rfl, rfl, rfl, trivial⟩ ⟨by omega, fun j hj => (by rcases Nat.lt_or_eq_of_le (Nat.le_of_lt_succ hj) with h9 | h9; exact hall j h9; subst h9; assumption)⟩ (by omega) (Ent.imp (by repeat first | exact Imp.refl _ | (apply Imp.pull; focus ((repeat first | exact Del.head _ _ | apply Del.tail); done)) | apply Imp.drop)))
      | (refine finAt ?_; rw [pos_yes (by assumption) (by assumption) hall]; exact Fini.of ⟨rfl, rfl⟩ (by repeat first | exact Imp.refl _ | (apply Imp.pull; focus ((repeat first | exact Del.head _ _ | apply Del.tail); done)) | apply Imp.drop))
      | (refine finAt ?_; obtain rfl : i = W.length := (by omega); rw [pos_no hall]; exact Fini.of ⟨rfl, rfl⟩ (by repeat first | exact Imp.refl _ | (apply Imp.pull; focus ((repeat first | exact Del.head _ _ | apply Del.tail); done)) | apply Imp.drop))
      | refine And.intro (fun hc => ?_) (fun hc => ?_)
      | refine And.intro ?_ ?_
      | intro b
      | refine stp ?_
      | refine TQ.finC ?_
      | refine TQ.finC2 ?_
      | refine TQ.finC3 ?_
      | refine ⟨fun hc => ?_, fun hc => ?_⟩
      | refine Ei.f ?_
      | refine ⟨?_, ?_⟩
      | intro b
      | exact absurd rfl hc
      | exact absurd hc (by decide)
      | omega
      | (dsimp only; omega)
      | fail)
theorem copied_spec (h : Array Obj) (a : Option Addr) (k : Nat) (l : List Bf) [hI : InpD h a (2 + 1) l.length k (l.flatMap bufV)] (hl : l.length ≤ 100000) :
    Sat Try.prog 20 [.slice a l.length k] [old h] (fun u L' => ∃ a2 k2, u = .slice a2 l.length k2 ∧ L' = [old h, Pw.sl 37 (2 + 1) (.slice a2 l.length k2) l.length (l.flatMap bufV)]) := by
  have hgo : True := trivial
  all_goals
    refine Sat.enter Try.func20 rfl Try.ntmps20 rfl (fun c R => ?_)
    try simp only [List.cons_append, List.nil_append]
    repeat' (first
      | (refine T.atR 1 ?_; clear hgo; refine T.ent (Ent.imp imp_b0) ?_)
      | (refine finAt ?_; rw [Nat.zero_add]; exact Fini.of ⟨_, _, rfl, rfl⟩ (by repeat first | exact Imp.refl _ | (apply Imp.pull; focus ((repeat first | exact Del.head _ _ | apply Del.tail); done)) | apply Imp.drop))
      | refine And.intro (fun hc => ?_) (fun hc => ?_)
      | refine And.intro ?_ ?_
      | intro b
      | refine stp ?_
      | refine TQ.finC ?_
      | refine TQ.finC2 ?_
      | refine TQ.finC3 ?_
      | refine ⟨fun hc => ?_, fun hc => ?_⟩
      | refine Ei.f ?_
      | refine ⟨?_, ?_⟩
      | intro b
      | exact absurd rfl hc
      | exact absurd hc (by decide)
      | omega
      | (dsimp only; omega)
      | fail)

end Go.Proofs.Ytcmafjngfcablaa


namespace Go.Proofs.Ytcmafjngfcablaa
open Go Pw
set_option maxRecDepth 20000
set_option maxHeartbeats 4000000
set_option synthInstance.maxHeartbeats 400000
set_option synthInstance.maxSize 4000
set_option maxHeartbeats 8000000

structure Stp where
  (do_ : Int) (l : List Bf) (la : Option Addr) (lk : Nat) (at_ : Nat) (s : List UInt8) (n x : Nat)
instance : Inhabited Stp := ⟨⟨0, [], none, 0, 0, [], 0, 0⟩⟩
abbrev stpV (t : Stp) : List Value := [.int .i64 t.do_, .slice t.la t.l.length t.lk, .int .u32 t.at_, str t.s, .int .u8 t.n, .int .u32 t.x]
instance : FLen stpV 6 := ⟨fun _ => rfl⟩
instance : FLen stpV (5 + 1) := ⟨fun _ => rfl⟩
structure Stp.ok (h : Array Obj) (t : Stp) : Prop where
  inp : Inp h (2 + 1) t.l.length (.slice t.la t.l.length t.lk) (t.l.flatMap bufV)
  lok : ∀ b ∈ t.l, b.ok
  at_ : t.at_ < 4294967296
  s : t.s.length ≤ 140737488351232
  n : t.n < 256
  x : t.x < 4294967296
theorem stp0 (h : Array Obj) : (default : Stp).ok h := ⟨⟨rfl, by decide, none, 0, rfl, .inl rfl⟩, (fun b hb => absurd hb List.not_mem_nil), by decide, by decide, by decide, by decide⟩
def hvE (l : List Stp) : Nat → Nat
  | 0 => 0
  | i + 1 => hvE l i + (gt l i).s.length + 4 * (gt l i).l.length
theorem hvE_le {h : Array Obj} {l : List Stp} (hok : ∀ j, (gt l j).ok h) : ∀ i, hvE l i ≤ i * 703687441756160
  | 0 => Nat.zero_le _
  | i + 1 => by
    have h1 := hvE_le hok i
    have h2 := (hok i).s
    have h3 := (hok i).inp.2.1
    have e : hvE l (i + 1) = hvE l i + (gt l i).s.length + 4 * (gt l i).l.length := rfl
    rw [e, Nat.succ_mul]
    omega
theorem hvE_mono {l : List Stp} {j : Nat} : ∀ i, j < i → 4 * (gt l j).l.length ≤ hvE l i
  | 0, h => absurd h (Nat.not_lt_zero _)
  | i + 1, h => by
    have e : hvE l (i + 1) = hvE l i + (gt l i).s.length + 4 * (gt l i).l.length := rfl
    rcases Nat.lt_or_eq_of_le (Nat.le_of_lt_succ h) with h1 | h1
    · have := hvE_mono (l := l) i h1; omega
    · subst h1; omega
theorem heavy_fin {l : List Stp} {i : Nat} (h1 : ¬ 200 < l.length) (h2 : l.length ≤ i) (h : decide (16384 < hvE l i) = false) : l.length ≤ 200 ∧ ∀ j, j < l.length → (gt l j).l.length ≤ 4096 := by
  have h8 := of_decide_eq_false h
  refine ⟨by omega, fun j hj => ?_⟩
  have h9 := hvE_mono (l := l) (j := j) i (by omega)
  omega
theorem vN7 {x y : Nat} (e : x = y) : Value.int .i64 (x : Int) = Value.int .i64 (y : Int) := by rw [e]
/-- What the device leaves: only what is lent is changed. -/
structure DevP (ss : List Spn) (bs bs2 : List UInt8) : Prop where
  len : bs2.length = bs.length
  keep : ∀ k : Nat, ¬ inS ss k → bs2[k]? = bs[k]?
theorem DevP.dev (bs : List UInt8) (ss : List Spn) (a : Nat) (s : List UInt8) (e : Nat) : DevP ss bs (writeE bs (flags bs.length ss) a s true e).2 := by
  refine ⟨writeE_len _ _ _ _ _ _, fun k hk => ?_⟩
  unfold writeE
  split
  · rename_i h
    split
    · rename_i h2
      show (putB bs a s)[k]? = _
      rw [putB_get h, if_neg]
      intro hc
      have h3 := (allB_iff (by rw [flags_len]; exact h)).1 h2 k hc.1 hc.2
      rw [flags_get (by omega)] at h3
      simp [hk] at h3
    · rfl
  · rfl
theorem dev_same {ss : List Spn} {bs bs2 : List UInt8} (h : DevP ss bs bs2) {k : Nat} (hk : k < bs.length) (hn : gt bs k ≠ gt bs2 k) : inS ss k := by
  refine Decidable.byContradiction fun hc => hn ?_
  have h1 := h.keep k hc
  rw [gt_get hk, gt_get (by rw [h.len]; exact hk)] at h1
  exact (Option.some.inj h1).symm
/-- The ring in RingOnce. -/
structure OI (N n : Nat) (X : XC) (tk : List Bool) (nx ls : Nat) (bs : List UInt8) (W : List Nat) : Prop where
  ok : RgOk 16 bs.length X tk nx ls
  bl : bs.length = N
  tl : tk.length = n
  w : W = X.map (·.1)
theorem OI.wl {N n nx ls : Nat} {X : XC} {tk : List Bool} {bs : List UInt8} {W : List Nat} (I : OI N n X tk nx ls bs W) : W.length = X.length := by rw [I.w, List.length_map]
theorem OI.dev {N n nx ls : Nat} {X : XC} {tk : List Bool} {ss : List Spn} {bs bs2 : List UInt8} {W : List Nat} (I : OI N n X tk nx ls bs W) (h : DevP ss bs bs2) : OI N n X tk nx ls bs2 W := ⟨by rw [h.len]; exact I.ok, h.len.trans I.bl, I.tl, I.w⟩
theorem add_once {N n nx ls hd e nx' : Nat} {br : Bool} {X X' : XC} {tk tk' lt lt' : List Bool} {bs bs' : List UInt8} {W : List Nat} {l : List Bf} (I : OI N n X tk nx ls bs W) (hl : ∀ b ∈ l, b.ok) (h : AddP 16 bs lt l X tk nx br hd e bs' lt' X' tk' nx') :
    (e = 0 → posW W hd = -1 ∧ hd < 65536 ∧ OI N n X' tk' nx' ls bs' (W ++ [hd])) ∧ (e ≠ 0 → OI N n X' tk' nx' ls bs' W) := by
  have hk := add_ok hl h I.ok
  have hlen := add_len h
  cases h with
  | dead => exact ⟨fun h => absurd h (by decide), fun _ => I⟩
  | no e _ _ h2 => exact ⟨fun h => absurd h h2, fun _ => I⟩
  | lent e lt' _ _ _ h2 => exact ⟨fun h => absurd h h2, fun _ => I⟩
  | done lt' bs' da dk ba bk _ h2 h3 h4 =>
    obtain ⟨l1, l8, -, hc⟩ := h2.ok rfl
    have hst := st_ok _ hc
    have h7 := hst.dd _ (gt_mem (show 0 < (stE tk l.length).1.length by rw [hst.dl]; omega))
    have hx1 := hst.x1
    have hn1 := I.ok.n1
    refine ⟨fun _ => ⟨pos_no fun j hj e => ?_, by omega, ⟨hk, hlen.2.trans I.bl, hlen.1.trans I.tl, by rw [I.w]; simp⟩⟩, fun h => absurd rfl h⟩
    have hm := gt_mem hj
    rw [e, I.w] at hm
    obtain ⟨y, hy, e2⟩ := List.mem_map.1 hm
    have h8 := I.ok.tk1 _ (I.ok.key hy)
    rw [e2, h7.2] at h8
    cases h8
theorem poll_once {N n nx ls hd sz e ls' : Nat} {br br' is : Bool} {X X' : XC} {tk tk' lt lt' : List Bool} {bs : List UInt8} {W : List Nat} (I : OI N n X tk nx ls bs W) (h : PollP bs lt 16 X tk ls br hd sz is e X' tk' ls' br' lt') :
    (br = true → is = false ∧ e = 20) ∧ (e = 20 → br' = true) ∧ (is = false → OI N n X' tk' nx ls' bs W) ∧ (is = true → e = 0 ∧ ∃ k : Nat, posW W hd = (k : Int) ∧ k < W.length ∧ OI N n X' tk' nx ls' bs (W.eraseIdx k)) ∧ hd < 65536 ∧ sz < 4294967296 := by
  have hk := poll_ok h I.ok
  have hlen := poll_len h
  cases h with
  | dead hb => exact ⟨fun _ => ⟨rfl, rfl⟩, fun _ => rfl, fun _ => I, fun h => (by cases h), by decide, by decide⟩
  | none hb => exact ⟨fun h => (by rw [hb] at h; cases h), fun h => absurd h (by decide), fun _ => I, fun h => (by cases h), by decide, by decide⟩
  | breaks hb => exact ⟨fun h => (by rw [hb] at h; cases h), fun _ => rfl, fun _ => I, fun h => (by cases h), by decide, by decide⟩
  | done c hb _ hid hat =>
    refine ⟨fun h => (by rw [hb] at h; cases h), fun h => absurd h (by decide), fun h => (by cases h), fun _ => ⟨rfl, ?_⟩, hid, numE_lt _ _ _⟩
    generalize hq : (numE bs (slotE 16 tk.length ls) 4).1 = q at *
    have hm : q ∈ W := by
      rw [I.w]
      exact List.mem_map.2 ⟨_, atJ_mem hat, rfl⟩
    have hp : posW W q = (W.idxOf q : Nat) := by unfold posW; rw [if_pos hm]
    have hkl := List.idxOf_lt_length_of_mem hm
    have hg : gt W (W.idxOf q) = q := by
      have := gt_get hkl
      rw [List.getElem?_eq_getElem hkl, List.getElem_idxOf] at this
      exact (Option.some.inj this).symm
    have hkeys := I.ok.keys
    rw [← I.w] at hkeys
    obtain ⟨c', h1, h2⟩ := find_at (X := X) (k := W.idxOf q) (by rw [← I.w]; exact hkeys) (by rw [← I.w]; exact hkl)
    rw [← I.w, hg] at h1 h2
    refine ⟨W.idxOf q, hp, hkl, ⟨hk, I.bl, hlen.trans I.tl, ?_⟩⟩
    rw [h2, I.w, Pw.eraseIdx_map']
theorem rd_all {bs : List UInt8} {N : Nat} (h : bs.length = N) : readE bs 0 (N : Int) = (bs, 0) := by
  unfold readE
  rw [if_neg (by omega), Int.toNat_natCast, if_pos (by omega), List.drop_zero, List.take_of_length_le (by omega)]
theorem new5 {n : Nat} (h : n = 1 ∨ n = 2 ∨ n = 4 ∨ n = 8 ∨ n = 16) : NewOk 900 16 n := by
  rcases h with rfl | rfl | rfl | rfl | rfl
  · exact ⟨by decide +kernel, by decide +kernel, by decide⟩
  · exact ⟨by decide +kernel, by decide +kernel, by decide⟩
  · exact ⟨by decide +kernel, by decide +kernel, by decide⟩
  · exact ⟨by decide +kernel, by decide +kernel, by decide⟩
  · exact ⟨by decide +kernel, by decide +kernel, by decide⟩
theorem pow5 (p : Nat) : ∃ n, n = 1 * 2 ^ (p % 5) ∧ (n = 1 ∨ n = 2 ∨ n = 4 ∨ n = 8 ∨ n = 16) := by
  refine ⟨_, rfl, ?_⟩
  have : p % 5 < 5 := Nat.mod_lt _ (by decide)
  generalize p % 5 = q at *
  match q, this with
  | 0, _ => exact .inl rfl
  | 1, _ => exact .inr (.inl rfl)
  | 2, _ => exact .inr (.inr (.inl rfl))
  | 3, _ => exact .inr (.inr (.inr (.inl rfl)))
  | 4, _ => exact .inr (.inr (.inr (.inr rfl)))
theorem oi0 {n : Nat} (h : NewOk 900 16 n) : OI 900 n [] (List.replicate n false) 0 0 (writeE (List.replicate 900 0) (List.replicate 900 false) 16 (List.replicate (sizeE (n : Nat)) 0) false 11).2 [] := by
  have hl : (writeE (List.replicate 900 0) (List.replicate 900 false) 16 (List.replicate (sizeE (n : Nat)) 0) false 11).2.length = 900 := by rw [writeE_len, List.length_replicate]
  exact ⟨rg0 h.n1 h.new.2.2.2.1 (by decide) (by rw [hl]; decide), hl, List.length_replicate, rfl⟩
theorem heavy_spec (h : Array Obj) (l : List Stp) (a : Option Addr) (k : Nat) [hI : InpD h a (5 + 1) l.length k (l.flatMap stpV)] [hIP : InpP a (5 + 1) l.length k] (hok : ∀ j, (gt l j).ok h) (hl : l.length < 4611686018427387904) :
    Sat Try.prog 19 [.slice a l.length k] [old h] (fun u L' => ∃ b : Bool, (b = false → l.length ≤ 200 ∧ ∀ j, j < l.length → (gt l j).l.length ≤ 4096) ∧ u = .bool b ∧ L' = [old h]) := by
  all_goals
    refine Sat.enter Try.func19 rfl Try.ntmps19 rfl (fun c R => ?_)
    try simp only [List.cons_append, List.nil_append]
    repeat' (first
      | (refine T.atB 0 ?_; refine T.lpa 0 [(0, _)] (0 : Nat) (fun i => [(3, .int .i64 (hvE l i : Nat)), (4, .int .i64 (i : Nat))]) (fun _ => []) (fun i => i ≤ l.length ∧ i ≤ 300) (fun i => l.length - i) ⟨Nat.zero_le _, by decide⟩ ?_; rintro i g ⟨hi, hi3⟩; have hv := hvE_le hok i; have hs1 := (hok i).s; have hs2 := (hok i).inp.2.1; simp only [List.cons_append, List.nil_append, appR])
      | (refine TQ.atL ?_; refine TQ.rd (i + 1 : Nat) rfl ⟨rfl, rfl, rfl, trivial⟩ ⟨by omega, by omega⟩ (by omega) (Ent.imp (by repeat first | exact Imp.refl _ | (apply Imp.pull; focus ((repeat first | exact Del.head _ _ | apply Del.tail); done)) | apply Imp.drop)))
      | (refine finAt ?_; exact Fini.of ⟨true, fun h => Bool.noConfusion h, rfl, rfl⟩ (by repeat first | exact Imp.refl _ | (apply Imp.pull; focus ((repeat first | exact Del.head _ _ | apply Del.tail); done)) | apply Imp.drop))
      | (refine finAt ?_; exact Fini.of ⟨_, heavy_fin (by omega) (by omega), rfl, rfl⟩ (by repeat first | exact Imp.refl _ | (apply Imp.pull; focus ((repeat first | exact Del.head _ _ | apply Del.tail); done)) | apply Imp.drop))
      | refine T.pl 5 [] (.p 0 (.p 1 (.p 2 (.p 3 (.p 8 (.p 9 (.p 10 (.d 4 (.d 5 (.p 6 (.p 7 (.d 11 (.d 12 (.p 13 (.p 14 (.p 15 (.p 16 .fin))))))))))))))))) ?_
      | refine And.intro (fun hc => ?_) (fun hc => ?_)
      | refine And.intro ?_ ?_
      | intro b
      | refine stp ?_
      | refine TQ.finC ?_
      | refine TQ.finC2 ?_
      | refine TQ.finC3 ?_
      | refine ⟨fun hc => ?_, fun hc => ?_⟩
      | refine Ei.f ?_
      | refine ⟨?_, ?_⟩
      | intro b
      | exact absurd rfl hc
      | exact absurd hc (by decide)
      | omega
      | (dsimp only; omega)
      | fail)

end Go.Proofs.Ytcmafjngfcablaa


namespace Go.Proofs.Ytcmafjngfcablaa
open Go Pw
set_option maxRecDepth 20000
set_option maxHeartbeats 4000000
set_option synthInstance.maxHeartbeats 400000
set_option synthInstance.maxSize 4000
set_option maxHeartbeats 16000000

theorem _root_.Pw.T.atSB {P : Program} {r : Rd} {c : Ctx} {L : List Assn} {Q : Exit → Env → Rd → World → Prop} {E : Env} (id : Nat) {x y : Code} (h : T P r c L (.seq (.block id x) y) Q E) : T P r c L (.seq (.block id x) y) Q E := h
theorem _root_.Pw.T.atBT {P : Program} {r : Rd} {c : Ctx} {L : List Assn} {Q : Exit → Env → Rd → World → Prop} {E : Env} (id : Nat) {x y : Code} (h : T P r c L (.block id x) (thenQ P r y Q) E) : T P r c L (.block id x) (thenQ P r y Q) E := h
section
variable {P : Program} {r : Rd} {c : Ctx} {ns : List Nat} {ops : Array Oper} {Q : Exit → Env → Rd → World → Prop} {K : List Assn} {s : Sci} {L : List Assn} {E : Env}
theorem atUS (h : US P r c ns ops Q K s L E) : US P r c ns ops Q K s L E := h
theorem atUN {i : Nat} (h : UN P r c ns ops Q K i s L E) : UN P r c ns ops Q K i s L E := h
theorem atUSK (h : USK P r c ns ops Q K s L E) : USK P r c ns ops Q K s L E := h
end
instance {L R : List Assn} {h : Array Obj} {a : Option Addr} {n k : Nat} {l : List Stp} [ho : OldDel L h R] [hI : InpD h a (5 + 1) n k (l.flatMap stpV)] [hIP : InpP a (5 + 1) n k] : FnR Try.prog 19 [.slice a n k] L (fun kk => Vc (n = l.length ∧ (∀ j, (gt l j).ok h) ∧ l.length < 4611686018427387904) (∀ b : Bool, (b = false → l.length ≤ 200 ∧ ∀ j, j < l.length → (gt l j).l.length ≤ 4096) → kk (.bool b) (old h :: R))) :=
  ⟨fun kk hh => by
    obtain ⟨⟨rfl, h1, h2⟩, h9⟩ := hh
    exact ⟨_, R, _, heavy_spec h l a k h1 h2, .cons ho.h (.nil _), fun v L' hv => by obtain ⟨b, e1, rfl, rfl⟩ := hv; exact h9 b e1⟩⟩
instance {L R : List Assn} {h : Array Obj} {a : Option Addr} {n k : Nat} {l : List Bf} [ho : OldDel L h R] [hI : InpD h a (2 + 1) n k (l.flatMap bufV)] : FnR Try.prog 20 [.slice a n k] L (fun kk => Vc (n = l.length ∧ l.length ≤ 100000) (∀ a2 k2, kk (.slice a2 n k2) (old h :: Pw.sl 37 (2 + 1) (.slice a2 n k2) n (l.flatMap bufV) :: R))) :=
  ⟨fun kk hh => by
    obtain ⟨⟨rfl, h1⟩, h9⟩ := hh
    exact ⟨_, R, _, copied_spec h a k l h1, .cons ho.h (.nil _), fun v L' hv => by obtain ⟨a2, k2, rfl, rfl⟩ := hv; exact h9 a2 k2⟩⟩
instance {L R : List Assn} {a : Option Addr} {n k h : Nat} {x : Int} {W : List Nat} [hs : SlAt L (.slice a n k) 32 (0 + 1) n (W.flatMap u16L) R] [hx : Nn x h] : FnR Try.prog 21 [.slice a n k, .int .u16 x] L (fun kk => Vc (n = W.length ∧ W.length ≤ 1048576) (kk (.int .i64 (posW W h)) (Pw.sl 32 (0 + 1) (.slice a n k) n (W.flatMap u16L) :: R))) :=
  ⟨fun kk hh => by
    obtain ⟨⟨rfl, h1⟩, h9⟩ := hh
    exact ⟨_, R, _, by rw [hx.h]; exact at_spec a k h W h1, .cons hs.h (.nil _), fun v L' hv => by rw [hv.1, hv.2]; exact h9⟩⟩
instance {L R : List Assn} {a : Option Addr} {n k q : Nat} {x : Int} {ss : List Spn} [hs : SlAt L (.slice a n k) 73 (1 + 1) n (ss.flatMap spnV) R] [hx : Nn x q] : FnR Try.prog 24 [.slice a n k, .int .i64 x] L (fun kk => Vc (n = ss.length ∧ (∀ s ∈ ss, s.1 + s.2 ≤ 1048576) ∧ ss.length ≤ 1048576 ∧ q ≤ 1048576) (kk (.bool (decide (inS ss q))) (Pw.sl 73 (1 + 1) (.slice a n k) n (ss.flatMap spnV) :: R))) :=
  ⟨fun kk hh => by
    obtain ⟨⟨rfl, h1, h2, h3⟩, h9⟩ := hh
    exact ⟨_, R, _, by rw [hx.h]; exact in_spec a k q ss h1 h2 h3, .cons hs.h (.nil _), fun v L' hv => by rw [hv.1, hv.2]; exact h9⟩⟩
theorem LT_eq5 {n : Nat} : (turnE (List.replicate 900 false) (16 + partN n) (sizeE (n : Nat) - partN n) true 11).2 = LT 900 16 n := rfl
theorem rd_900 {bs : List UInt8} (h : bs.length = 900) : readE bs 0 900 = (bs, 0) := rd_all (N := 900) h
theorem once_bad {br is br' : Bool} {e : Nat} (q1 : br = true → is = false ∧ e = 20) (q2 : e = 20 → br' = true) : (br = true → is = true → False) ∧ (br = true → ¬ e = 20 → False) ∧ (e = 20 → (!br') = true → False) :=
  ⟨fun h1 h2 => (by rw [(q1 h1).1] at h2; cases h2), fun h1 h2 => h2 (q1 h1).2, fun h1 h2 => (by rw [q2 h1] at h2; cases h2)⟩
attribute [local irreducible] writeE turnE sizeE partN LT readE posW flags inS
theorem once_law (h : Array Obj) (power : Nat) (l : List Stp) (ao : Option Addr) (ko : Nat) [hI : InpD h ao (5 + 1) l.length ko (l.flatMap stpV)] [hIP : InpP ao (5 + 1) l.length ko] (hp : power < 256) (hok : ∀ j, (gt l j).ok h) (hol : l.length < 4611686018427387904) :
    Sat Try.prog 5 [.int .u8 (power : Nat), .slice ao l.length ko] [old h] (fun u L' => u = .bool true ∧ L' = [old h]) := by
  have hp8 : 1 * 2 ^ (power % 5) < 9223372036854775808 := by
    obtain ⟨n, e, h⟩ := pow5 power
    rw [← e]; omega
  have hg3 : True := trivial
  have hg4 : True := trivial
  have hg5 : True := trivial
  have hg8 : True := trivial
  have hg18 : True := trivial
  have hg19 : True := trivial
  have hg25 : True := trivial
  have hg28 : True := trivial
  have hg29 : True := trivial
  have hg31 : True := trivial
  have hg38 : True := trivial
  have hg39 : True := trivial
  have hg45 : True := trivial
  have hg46 : True := trivial
  have hg51 : True := trivial
  have hg135 : True := trivial
  all_goals
    refine Sat.enter Try.func5 rfl Try.ntmps5 rfl (fun c R => ?_)
    try simp only [List.cons_append, List.nil_append]
    repeat' (first
      | exact hp8
      | (refine T.atK (.tmp 135) ?_; clear hg135; refine T.cutC (.tmp 135) (fun b : Bool => [(1, .slice ao l.length ko), (5, .int .i64 (n : Nat)), (6, .pointer (some ⟨p_, 0, none⟩)), (8, .pointer (some ⟨r_, 0, none⟩)), (9, .slice a9 W.length k9), (10, .int .i64 (i : Nat)), (11, .pointer (some ⟨b11, 0, none⟩)), (135, .bool b)]) (fun _ => rgA r_ p_ 16 X tk nx ls br :: memA p_ bs lt :: Pw.sl 32 (0 + 1) (.slice a9 (W).length k9) (W).length ((W).flatMap u16L) :: row 55 b11 [.int .i64 (gt l i).do_, .slice (gt l i).la (gt l i).l.length (gt l i).lk, .int .u32 ((gt l i).at_ : Nat), str (gt l i).s, .int .u8 ((gt l i).n : Nat), .int .u32 ((gt l i).x : Nat)] :: old h :: R) (fun _ => True) ?_ (fun b135 g _ => ?_))
      | (refine TQ.atC ?_; refine TQ.cn (_ : Bool) rfl ⟨rfl, rfl, rfl, rfl, rfl, rfl, rfl, rfl, trivial⟩ trivial (Ent.imp (by repeat first | exact Imp.refl _ | (apply Imp.pull; focus ((repeat first | exact Del.head _ _ | apply Del.tail); done)) | apply Imp.drop)))
      | (refine T.atR 50 ?_; exact absurd (dev_same hdv (by omega) (fun e => ‹(gt bs kq).toNat ≠ (gt b2 kq).toNat› (congrArg UInt8.toNat e))) ‹¬ inS ss kq›)
      | (refine T.atR 3 ?_; clear hg3; obtain ⟨hl2, hl4⟩ := b ‹_ = false›)
      | (refine T.atR 4 ?_; clear hg4; obtain ⟨n, hn, hcs⟩ := pow5 power; rw [← hn]; clear hn; have hnw := new5 hcs; have hn1 := hnw.n1; have hn8 : n ≤ 16 := (by omega); have hnl := hnw.len)
      | (refine T.atR 5 ?_; clear hg5; obtain ⟨p_, hp_⟩ : ∃ x, x = b := ⟨_, rfl⟩; subst hp_)
      | (refine Pw.Vc.mk hnw.new ?_)
      | (refine T.atR 8 ?_; clear hg8; obtain ⟨r_, hr_⟩ : ∃ x, x = b := ⟨_, rfl⟩; subst hr_; rw [LT_eq5])
      | (refine T.atB 0 ?_; refine T.ent (Ent.imp imp_w0) ?_; refine T.lpa 0 [(1, _), (5, _), (6, _), (8, _)] ((0, [], List.replicate n false, 0, 0, false, (writeE (List.replicate 900 0) (List.replicate 900 false) 16 (List.replicate (sizeE (n : Nat)) 0) false 11).2, LT 900 16 n, [], none, 0) : Nat × XC × List Bool × Nat × Nat × Bool × List UInt8 × List Bool × List Nat × Option Addr × Nat) (fun z => [(9, .slice z.2.2.2.2.2.2.2.2.2.1 (z.2.2.2.2.2.2.2.2.1).length z.2.2.2.2.2.2.2.2.2.2), (10, .int .i64 (z.1 : Nat))]) (fun z => [rgA r_ p_ 16 z.2.1 z.2.2.1 z.2.2.2.1 z.2.2.2.2.1 z.2.2.2.2.2.1, memA p_ z.2.2.2.2.2.2.1 z.2.2.2.2.2.2.2.1, Pw.sl 32 (0 + 1) (.slice z.2.2.2.2.2.2.2.2.2.1 (z.2.2.2.2.2.2.2.2.1).length z.2.2.2.2.2.2.2.2.2.2) (z.2.2.2.2.2.2.2.2.1).length ((z.2.2.2.2.2.2.2.2.1).flatMap u16L)]) (fun z => z.1 ≤ l.length ∧ OI 900 n z.2.1 z.2.2.1 z.2.2.2.1 z.2.2.2.2.1 z.2.2.2.2.2.2.1 z.2.2.2.2.2.2.2.2.1) (fun z => l.length - z.1) ⟨Nat.zero_le _, oi0 hnw⟩ ?_; rintro ⟨i, X, tk, nx, ls, br, bs, lt, W, a9, k9⟩ g ⟨hi, I⟩; dsimp only at hi I; have hok1 := I.ok; have htl := I.tl; have hpt : partN tk.length = partN n := (by rw [htl]); have ht256 := I.ok.n1; have hwl := I.wl; have hx256 := I.ok.xl; have hbl := I.bl; have hs1 := (hok i).at_; have hs2 := (hok i).s; have hs3 := (hok i).n; have hs4 := (hok i).x; have hs5 := hl4 i; have hs6 := (hok i).lok; have hIn : InpD h (gt l i).la (2 + 1) (gt l i).l.length (gt l i).lk ((gt l i).l.flatMap bufV) := ⟨(hok i).inp⟩; have hmd := Nat.mod_lt (gt l i).at_ (show 0 < n from hn1); have hle1 : (leB (gt l i).x 2).length = 2 := leB_len _ _; have hle2 : (leB (gt l i).n 4).length + (leB (gt l i).x 4).length = 8 := (by rw [leB_len, leB_len]); have hle3 : (leB (gt l i).n 4 ++ leB (gt l i).x 4).length = 8 := (by rw [List.length_append, leB_len, leB_len]); simp only [List.cons_append, List.nil_append, appR])
      | (refine T.atSB 2 ?_; obtain ⟨b11, hb11⟩ : ∃ x, x = b := ⟨_, rfl⟩; subst hb11; refine T.cutb 2 (fun z : XC × List Bool × Nat × Nat × Bool × List UInt8 × List Bool × List Nat × Option Addr × Nat => [(1, .slice ao l.length ko), (5, .int .i64 (n : Nat)), (6, .pointer (some ⟨p_, 0, none⟩)), (8, .pointer (some ⟨r_, 0, none⟩)), (9, .slice z.2.2.2.2.2.2.2.2.1 (z.2.2.2.2.2.2.2.1).length z.2.2.2.2.2.2.2.2.2), (10, .int .i64 (i : Nat))]) (fun z => rgA r_ p_ 16 z.1 z.2.1 z.2.2.1 z.2.2.2.1 z.2.2.2.2.1 :: memA p_ z.2.2.2.2.2.1 z.2.2.2.2.2.2.1 :: Pw.sl 32 (0 + 1) (.slice z.2.2.2.2.2.2.2.2.1 (z.2.2.2.2.2.2.2.1).length z.2.2.2.2.2.2.2.2.2) (z.2.2.2.2.2.2.2.1).length ((z.2.2.2.2.2.2.2.1).flatMap u16L) :: old h :: R) (fun z => OI 900 n z.1 z.2.1 z.2.2.1 z.2.2.2.1 z.2.2.2.2.2.1 z.2.2.2.2.2.2.2.1) ?_ (fun z g hI2 => ?_))
      | (refine T.atBT 2 ?_; obtain ⟨b11, hb11⟩ : ∃ x, x = b := ⟨_, rfl⟩; subst hb11; refine T.cutt 2 (fun z : XC × List Bool × Nat × Nat × Bool × List UInt8 × List Bool × List Nat × Option Addr × Nat => [(1, .slice ao l.length ko), (5, .int .i64 (n : Nat)), (6, .pointer (some ⟨p_, 0, none⟩)), (8, .pointer (some ⟨r_, 0, none⟩)), (9, .slice z.2.2.2.2.2.2.2.2.1 (z.2.2.2.2.2.2.2.1).length z.2.2.2.2.2.2.2.2.2), (10, .int .i64 (i : Nat))]) (fun z => rgA r_ p_ 16 z.1 z.2.1 z.2.2.1 z.2.2.2.1 z.2.2.2.2.1 :: memA p_ z.2.2.2.2.2.1 z.2.2.2.2.2.2.1 :: Pw.sl 32 (0 + 1) (.slice z.2.2.2.2.2.2.2.2.1 (z.2.2.2.2.2.2.2.1).length z.2.2.2.2.2.2.2.2.2) (z.2.2.2.2.2.2.2.1).length ((z.2.2.2.2.2.2.2.1).flatMap u16L) :: old h :: R) (fun z => OI 900 n z.1 z.2.1 z.2.2.1 z.2.2.2.1 z.2.2.2.2.2.1 z.2.2.2.2.2.2.2.1) ?_ (fun z g hI2 => ?_))
      | (refine T.atSB 3 ?_; refine T.cutb 3 (fun _ : List UInt8 => [(1, .slice ao l.length ko), (5, .int .i64 (n : Nat)), (6, .pointer (some ⟨p_, 0, none⟩)), (8, .pointer (some ⟨r_, 0, none⟩)), (9, .slice a9 W.length k9), (10, .int .i64 (i : Nat)), (20, str bs), (22, .slice as_ ss.length ks)]) (fun b2 => rgA r_ p_ 16 X tk nx ls br :: memA p_ b2 (flags bs.length ss) :: Pw.sl 32 (0 + 1) (.slice a9 (W).length k9) (W).length ((W).flatMap u16L) :: Pw.sl 73 (1 + 1) (.slice as_ ss.length ks) ss.length (ss.flatMap spnV) :: old h :: R) (fun b2 => DevP ss bs b2) ?_ (fun b2 g hdv => ?_))
      | (refine T.atBT 3 ?_; refine T.cutt 3 (fun _ : List UInt8 => [(1, .slice ao l.length ko), (5, .int .i64 (n : Nat)), (6, .pointer (some ⟨p_, 0, none⟩)), (8, .pointer (some ⟨r_, 0, none⟩)), (9, .slice a9 W.length k9), (10, .int .i64 (i : Nat)), (20, str bs), (22, .slice as_ ss.length ks)]) (fun b2 => rgA r_ p_ 16 X tk nx ls br :: memA p_ b2 (flags bs.length ss) :: Pw.sl 32 (0 + 1) (.slice a9 (W).length k9) (W).length ((W).flatMap u16L) :: Pw.sl 73 (1 + 1) (.slice as_ ss.length ks) ss.length (ss.flatMap spnV) :: old h :: R) (fun b2 => DevP ss bs b2) ?_ (fun b2 g hdv => ?_))
      | (refine T.atR 18 ?_; clear hg18; have hadd := add_once I hs6 b; clear b)
      | (refine T.atR 19 ?_; clear hg19; obtain ⟨hp, hh16, I2⟩ := hadd.1 (by first | assumption | omega | fail))
      | (refine TQ.atC ?_; rename_i a7; rw [show W.length + 1 = (W ++ [_]).length from by rw [List.length_append]; rfl]; refine TQ.cn ((_, _, _, _, _, _, _, _, _, _) : XC × List Bool × Nat × Nat × Bool × List UInt8 × List Bool × List Nat × Option Addr × Nat) rfl ⟨rfl, rfl, rfl, rfl, rfl, rfl, trivial⟩ I2 (Ent.imp (by repeat first | exact Imp.refl _ | (apply Imp.pull; focus ((repeat first | exact Del.head _ _ | apply Del.tail); done)) | apply Imp.drop)))
      | (refine T.atR 25 ?_; clear hg25; have hpl := poll_len ‹PollP _ _ _ _ _ _ _ _ _ _ _ _ _ _ _ _›; obtain ⟨q1, q2, q3, q4, hd16, hsz⟩ := poll_once I (by assumption); have qb := once_bad q1 q2)
      | (refine T.atR 26 ?_; first | exact (qb.1 (by assumption) (by assumption)).elim | exact (qb.2.1 (by assumption) (by assumption)).elim | exact (qb.2.2 (by assumption) (by assumption)).elim)
      | (refine T.atR 28 ?_; clear hg28; obtain ⟨he0, q, hq, hqw, I2⟩ := q4 (by assumption))
      | (refine T.atR 29 ?_; clear hg29; rw [hq])
      | (refine T.atR 30 ?_; first | exact absurd (of_decide_eq_true hc) (Nat.not_lt_zero _) | omega)
      | (refine T.atR 31 ?_; clear hg31; refine T.ent (Ent.imp imp_w0) ?_; refine T.osl (n := W.length) (by omega) ?_; rintro b5 j5 rest rfl rfl hrest hxs)
      | (refine TQ.atC ?_; rw [List.nil_append, er_list, er_all hqw]; refine TQ.cn ((_, _, _, _, _, _, _, _, _, _) : XC × List Bool × Nat × Nat × Bool × List UInt8 × List Bool × List Nat × Option Addr × Nat) rfl ⟨rfl, rfl, rfl, rfl, rfl, rfl, trivial⟩ I2 (Ent.imp (by repeat first | exact Imp.refl _ | (apply Imp.pull; focus ((repeat first | exact Del.head _ _ | apply Del.tail); done)) | apply Imp.drop)))
      | (refine TQ.atC ?_; refine TQ.cn ((_, _, _, _, _, _, _, _, _, _) : XC × List Bool × Nat × Nat × Bool × List UInt8 × List Bool × List Nat × Option Addr × Nat) rfl ⟨rfl, rfl, rfl, rfl, rfl, rfl, trivial⟩ (q3 (by assumption)) (Ent.imp (by repeat first | exact Imp.refl _ | (apply Imp.pull; focus ((repeat first | exact Del.head _ _ | apply Del.tail); done)) | apply Imp.drop)))
      | (refine TQ.atC ?_; refine TQ.cn ((_, _, _, _, _, _, _, _, _, _) : XC × List Bool × Nat × Nat × Bool × List UInt8 × List Bool × List Nat × Option Addr × Nat) rfl ⟨rfl, rfl, rfl, rfl, rfl, rfl, trivial⟩ (hadd.2 (by first | assumption | omega | fail)) (Ent.imp (by repeat first | exact Imp.refl _ | (apply Imp.pull; focus ((repeat first | exact Del.head _ _ | apply Del.tail); done)) | apply Imp.drop)))
      | (refine T.atR 38 ?_; clear hg38; rw [rd_900 hbl])
      | (refine T.atR 39 ?_; clear hg39; rename_i ss as_ ks; obtain ⟨hss, hsl, rfl⟩ := b)
      | (refine TQ.atC ?_; refine TQ.cn (_ : List UInt8) rfl ⟨rfl, rfl, rfl, rfl, rfl, rfl, rfl, rfl, trivial⟩ (DevP.dev _ _ _ _ _) (Ent.imp (by repeat first | exact Imp.refl _ | (apply Imp.pull; focus ((repeat first | exact Del.head _ _ | apply Del.tail); done)) | apply Imp.drop)))
      | (refine T.atR 45 ?_; clear hg45; have hb2 : b2.length = 900 := hdv.len.trans hbl)
      | (refine T.atR 46 ?_; clear hg46; rw [rd_900 hb2])
      | (refine T.atB 4 ?_; refine T.lpa 4 [(1, _), (5, _), (6, _), (8, _), (9, _), (10, _), (20, _), (22, _), (23, _)] (0 : Nat) (fun k => [(25, .int .i64 (k : Nat))]) (fun _ => []) (fun k => k ≤ 900) (fun k => 900 - k) (Nat.zero_le _) ?_; rintro kq g hkq; simp only [List.cons_append, List.nil_append, appR])
      | (refine TQ.atL ?_; refine TQ.rd (kq + 1 : Nat) rfl ⟨rfl, rfl, rfl, rfl, rfl, rfl, rfl, rfl, rfl, rfl, trivial⟩ (by first | omega | fail) (by omega) (Ent.imp (by repeat first | exact Imp.refl _ | (apply Imp.pull; focus ((repeat first | exact Del.head _ _ | apply Del.tail); done)) | apply Imp.drop)))
      | (refine TQ.atC ?_; refine TQ.cn ((_, _, _, _, _, _, _, _, _, _) : XC × List Bool × Nat × Nat × Bool × List UInt8 × List Bool × List Nat × Option Addr × Nat) rfl ⟨rfl, rfl, rfl, rfl, rfl, rfl, trivial⟩ (I.dev hdv) (Ent.imp (by repeat first | exact Imp.refl _ | (apply Imp.pull; focus ((repeat first | exact Del.head _ _ | apply Del.tail); done)) | apply Imp.drop)))
      | (refine TQ.atC ?_; refine TQ.cn ((_, _, _, _, _, _, _, _, _, _) : XC × List Bool × Nat × Nat × Bool × List UInt8 × List Bool × List Nat × Option Addr × Nat) rfl ⟨rfl, rfl, rfl, rfl, rfl, rfl, trivial⟩ I (Ent.imp (by repeat first | exact Imp.refl _ | (apply Imp.pull; focus ((repeat first | exact Del.head _ _ | apply Del.tail); done)) | apply Imp.drop)))
      | (refine T.atR 51 ?_; clear hg51; obtain ⟨X1, tk1, nx1, ls1, br1, bs1, lt1, W1, a1, k1⟩ := z; dsimp only at hI2 ⊢; have hwl1 := hI2.wl)
      | (refine TQ.atL ?_; refine TQ.rd ((i + 1, X1, tk1, nx1, ls1, br1, bs1, lt1, W1, a1, k1) : Nat × XC × List Bool × Nat × Nat × Bool × List UInt8 × List Bool × List Nat × Option Addr × Nat) rfl ⟨rfl, rfl, rfl, rfl, rfl, rfl, trivial⟩ ⟨Nat.succ_le_of_lt (by assumption), hI2⟩ (by dsimp only; omega) (Ent.imp (by repeat first | exact Imp.refl _ | (apply Imp.pull; focus ((repeat first | exact Del.head _ _ | apply Del.tail); done)) | apply Imp.drop)))
      | (exact Fini.of ⟨rfl, rfl⟩ (by repeat first | exact Imp.refl _ | (apply Imp.pull; focus ((repeat first | exact Del.head _ _ | apply Del.tail); done)) | apply Imp.drop))
      | exact hok1
      | exact hok
      | exact hs6
      | exact hss
      | exact Nat.mod_lt _ (by omega)
      | refine T.pk 44 [2, 7, 8] (.p 0 (.p 1 (.p 4 (.g 5 (.p 6 (.n 2 (.p 3 (.n 7 (.n 8 .fin))))))))) ?_
      | refine T.pk 40 [2, 15, 19, 21] (.p 0 (.p 1 (.p 7 (.p 4 (.g 5 (.p 6 (.p 8 (.p 9 (.p 10 (.p 12 (.g 13 (.p 14 (.p 16 (.g 17 (.p 18 (.n 2 (.p 3 (.p 11 (.n 15 (.n 19 (.p 20 (.n 21 .fin)))))))))))))))))))))) ?_
      | refine T.pl 49 [10] (.p 0 (.p 1 (.p 2 (.p 3 (.p 4 (.p 5 (.p 6 (.p 7 (.p 8 (.p 9 (.n 10 (.p 11 (.p 12 .fin))))))))))))) ?_
      | refine And.intro (fun hc => ?_) (fun hc => ?_)
      | refine And.intro ?_ ?_
      | intro b
      | ((first | refine atUS ?_ | refine atUSK ?_ | refine atUN ?_); refine stk ?_)
      | refine stp ?_
      | refine TQ.finC ?_
      | refine TQ.finC2 ?_
      | refine TQ.finC3 ?_
      | refine ⟨fun hc => ?_, fun hc => ?_⟩
      | refine Ei.f ?_
      | refine ⟨?_, ?_⟩
      | intro b
      | exact absurd rfl hc
      | exact absurd hc (by decide)
      | omega
      | (dsimp only; omega)
      | fail)

end Go.Proofs.Ytcmafjngfcablaa

