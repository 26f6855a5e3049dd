/- Lemmas for the proofs of this seat: no statement of the seat is claimed here. -/
import Derived.Test.YtfgpnipnaaeafaaKz
set_option linter.all false

namespace Go.Proofs.Ytfgpnipnaaeafaa
open Go Pw
set_option maxRecDepth 20000
set_option maxHeartbeats 4000000
theorem may_lay {a N c e : Nat} (h : MayP (lay a) N c e) (h1 : a + 1041 ≤ N) (h2 : 3 ≤ c) : e = 0 := by
  have h9 := h.all (show 1 ≤ 3 by decide) (show 3 ≤ 8 by decide) (fun i hi => by
    have hi' : i < 3 := hi
    rcases (show i = 0 ∨ i = 1 ∨ i = 2 by omega) with rfl | rfl | rfl
    · exact ⟨show 0 < 16 by decide, show a + 16 ≤ N by omega⟩
    · exact ⟨show 0 < 1024 by decide, show a + 16 + 1024 ≤ N by omega⟩
    · exact ⟨show 0 < 1 by decide, show a + 1040 + 1 ≤ N by omega⟩) (fun i hi hin => by
    have hi' : i + 1 < 3 := hi
    rcases (show i = 0 ∨ i = 1 by omega) with rfl | rfl
    · cases (show (false : Bool) = true from hin)
    · rfl)
  rw [h9, if_neg (by show ¬ c < 3; omega)]
theorem lend_lay {A S a e : Nat} {lt lt' : List Bool} (h : LendP A S lt (lay a) e lt') (h1 : A + S ≤ a) (h2 : (turnE lt (a + 16) 1024 true 11).1 = 0) (h3 : (turnE (ldE lt (lay a) 2) (a + 1040) 1 true 11).1 = 0) : e = 0 ∧ lt' = ldE lt (lay a) 3 :=
  h.ok fun i hi hin => by
    have hi' : i < 3 := hi
    rcases (show i = 0 ∨ i = 1 ∨ i = 2 by omega) with rfl | rfl | rfl
    · cases (show (false : Bool) = true from hin)
    · refine ⟨?_, h2⟩
      show ¬ (a + 16 < A + S ∧ A < a + 16 + 1024)
      omega
    · refine ⟨?_, h3⟩
      show ¬ (a + 1040 < A + S ∧ A < a + 1040 + 1)
      omega
theorem get_0 {P a e : Nat} {wh' : List UInt8} (h : GetP P 1041 [0, 0] a e wh') : a = P ∧ e = 0 ∧ wh' = [1, 0] := by
  cases h with
  | full hf => exact absurd rfl (hf 0 (by decide))
  | got i h1 h2 h3 =>
    have : i = 0 := by
      rcases Nat.eq_zero_or_pos i with h | h
      · exact h
      · exact absurd rfl (h3 0 h)
    subst this
    exact ⟨by omega, rfl, rfl⟩
theorem szW : sizeE ((8 : Nat) : Int) = 222 := by decide +kernel
theorem ptW : partN 8 = 152 := by decide +kernel
theorem rnW : rndN 222 = 224 := by decide +kernel
theorem dsW : dszN 8 2 = 2306 := by decide +kernel
abbrev BW : List UInt8 := List.replicate 2306 0
abbrev B1W : List UInt8 := (writeE BW (List.replicate 2306 false) 0 (List.replicate 222 0) false 11).2
def L1W : List Bool := (turnE (List.replicate 2306 false) (0 + 152) (222 - 152) true 11).2
def LW : List Bool := ldE L1W (lay 224) 3
theorem wW : (writeE BW (List.replicate 2306 false) 0 (List.replicate 222 0) false 11).1 = 0 := by decide +kernel
theorem lW : (turnE (List.replicate 2306 false) (0 + 152) (222 - 152) true 11).1 = 0 := by decide +kernel
theorem lW2 : (turnE L1W (224 + 16) 1024 true 11).1 = 0 := by decide +kernel
theorem lW3 : (turnE (ldE L1W (lay 224) 2) (224 + 1040) 1 true 11).1 = 0 := by decide +kernel
theorem lWl : LW.length = 2306 := by decide +kernel
theorem lWu : allB LW 152 70 true = true := by decide +kernel
theorem lWb : allB LW 240 1025 true = true := by decide +kernel
theorem geoW : DGeo 0 8 224 2306 LW := by
  refine ⟨by decide, by decide, by rw [ptW]; decide, by decide, by decide, lWl, fun k h1 h2 => ?_, fun k h1 h2 => ?_⟩
  · rw [ptW] at h1 h2
    exact (allB_iff (by rw [lWl]; decide)).1 lWu k (by omega) (by omega)
  · exact (allB_iff (by rw [lWl]; decide)).1 lWb k (by omega) (by omega)
theorem stW : (stE (List.replicate 8 false) 3).1 = [0, 1, 2] := by decide +kernel
/-- What is left behind the one request. -/
structure WkP (bs : List UInt8) (lt : List Bool) (X : XC) (tk : List Bool) (nx : Nat) (K : AC) (wh : List UInt8) : Prop where
  bl : bs.length = 2306
  lt : lt = LW
  x : ∃ ch, X = [(0, ch)] ∧ ch.l = lay 224
  ok : RgOk 0 2306 X tk nx 0
  tl : tk.length = 8
  k : K = [(0, ⟨1, 3, 224⟩)]
  wh : wh = [1, 0]
theorem wk_read {bs bs' : List UInt8} {id e dn' : Nat} {fl' : Bool} {lt' tk' : List Bool} {X' : XC} {nx' : Nat} {K' : AC} {wh' : List UInt8} (hb : bs.length = 2306) (h : ReadP 0 224 3 bs L1W [] (List.replicate 8 false) 0 false [] [0, 0] 1 id e dn' fl' bs' lt' X' tk' nx' K' wh') : id = 1 ∧ e = 0 ∧ dn' = 2 ∧ fl' = false ∧ WkP bs' lt' X' tk' nx' K' wh' := by
  have hrg : RgOk 0 (rdB bs L1W 224 3).length [] (List.replicate 8 false) 0 0 := rg0 (by decide) (by decide) (by decide) (by rw [rdB_len, hb]; decide)
  have key : ∀ {hd e2 : Nat}, AddP 0 (rdB bs L1W 224 3) L1W (lay 224) [] (List.replicate 8 false) 0 false hd e2 bs' lt' X' tk' nx' → e2 = 0 ∧ hd = 0 ∧ lt' = LW ∧ ∃ ch, X' = [(0, ch)] ∧ ch.l = lay 224 := by
    intro hd e2 ha
    cases ha with
    | dead h1 => cases h1
    | no e h1 h2 h3 => exact absurd (may_lay h2 (by rw [rdB_len, hb]; decide) (by rw [List.length_replicate, cntF_rep 8 8 (Nat.le_refl _)]; decide)) h3
    | lent e lt2 h1 h2 h3 h4 => exact absurd (lend_lay h3 (by rw [List.length_replicate, szW]; decide) lW2 lW3).1 h4
    | done lt2 bs2 da dk ba bk h1 h2 h3 =>
      refine ⟨rfl, ?_, (lend_lay h3 (by rw [List.length_replicate, szW]; decide) lW2 lW3).2, ⟨[0, 1, 2], lay 224, da, dk, ba, bk⟩, ?_, rfl⟩
      · show gt (stE (List.replicate 8 false) 3).1 0 = 0
        rw [stW]; rfl
      · show [] ++ [(gt (stE (List.replicate 8 false) 3).1 0, _)] = _
        rw [stW]; rfl
  cases h with
  | full hg he => exact absurd (get_0 hg).2.1 he
  | asked hg ha =>
    obtain ⟨rfl, _, rfl⟩ := get_0 hg
    obtain ⟨_, rfl, hlt, hx⟩ := key ha
    have hl := add_len ha
    have hok := add_ok (lay_ok (by decide)) ha hrg
    rw [hl.2, rdB_len, hb] at hok
    exact ⟨rfl, rfl, rfl, rfl, hl.2.trans ((rdB_len _ _ _ _).trans hb), hlt, hx, hok, hl.1.trans List.length_replicate, rfl, rfl⟩
  | back hg ha hp =>
    obtain ⟨rfl, _, rfl⟩ := get_0 hg
    exact absurd (key ha).1 (by decide)
  | broke hg ha h1 h2 =>
    obtain ⟨rfl, _, rfl⟩ := get_0 hg
    exact absurd (key ha).1 h1
/-- The one answer. -/
theorem wk_all {bs : List UInt8} {lt : List Bool} {X : XC} {tk : List Bool} {nx : Nat} {K : AC} {wh : List UInt8} (h : WkP bs lt X tk nx K wh) : ∀ s b, AllE (svB bs (blkE 9) 0 8 224 0 0 0) 0 224 ⟨X, tk, 0, false, K, wh, lt, [], none, 0⟩ s b → b = false ∧ s.ol = [(⟨1, 3, 224⟩, some (blkE 9))] ∧ s.K = [] := by
  obtain ⟨ch, hX, hch⟩ := h.x
  have hd := blkE_len 9
  have hix : ixE (svB bs (blkE 9) 0 8 224 0 0 0) 0 8 = 1 := sv_ix geoW h.bl hd
  have hhd : (numE (svB bs (blkE 9) 0 8 224 0 0 0) (slotE 0 8 0) 4).1 = 0 := sv_hd geoW h.bl hd (by decide)
  have hsz : (numE (svB bs (blkE 9) 0 8 224 0 0 0) (slotE 0 8 0 + 4) 4).1 = 1025 := sv_sz geoW h.bl hd
  have hans : ansE (svB bs (blkE 9) 0 8 224 0 0 0) 224 1025 = some (blkE 9) := sv_ans geoW h.bl hd
  have hat : atJ X 0 = some ch := by rw [hX]; rfl
  have hroom : roomE ch.l ch.l.length = 1025 := by rw [hch]; rfl
  generalize svB bs (blkE 9) 0 8 224 0 0 0 = B at *
  -- the first poll
  have p0 : ∀ {hd sz e : Nat} {is : Bool} {X' : XC} {tk' : List Bool} {ls' : Nat} {br' : Bool} {lt' : List Bool}, PollP B lt 0 X tk 0 false hd sz is e X' tk' ls' br' lt' → hd = 0 ∧ sz = 1025 ∧ is = true ∧ e = 0 ∧ X' = [] ∧ tk'.length = 8 ∧ ls' = 1 ∧ br' = false := by
    intro hd sz e is X' tk' ls' br' lt' hp
    have htl := poll_len hp
    cases hp with
    | dead h1 => cases h1
    | none h1 h2 => rw [h.tl, hix] at h2; cases h2
    | breaks h1 h2 h3 =>
      rw [h.tl, hix, hhd, hsz] at h3
      rcases h3 with h3 | h3 | h3 | ⟨c, h3, h4⟩
      · rw [hX] at h3; exact absurd h3 (by show ¬ (1 < (1 + (65536 - 0)) % 65536); decide)
      · rw [show (0 : Nat) % 65536 = 0 from rfl, hat] at h3; cases h3
      · exact absurd h3 (by decide)
      · rw [show (0 : Nat) % 65536 = 0 from rfl, hat] at h3
        cases h3
        rw [hroom] at h4
        exact absurd h4 (by decide)
    | done c h1 h2 h3 h4 h5 =>
      rw [h.tl] at *
      refine ⟨hhd, hsz, rfl, rfl, ?_, htl, rfl, rfl⟩
      rw [hhd, hX]; rfl
  have p1 : ∀ {tk2 : List Bool} {lt2 : List Bool} {hd sz e : Nat} {is : Bool} {X' : XC} {tk' : List Bool} {ls' : Nat} {br' : Bool} {lt' : List Bool}, tk2.length = 8 → PollP B lt2 0 [] tk2 1 false hd sz is e X' tk' ls' br' lt' → is = false ∧ e = 0 := by
    intro tk2 lt2 hd sz e is X' tk' ls' br' lt' ht hp
    cases hp with
    | dead h1 => cases h1
    | none h1 h2 => exact ⟨rfl, rfl⟩
    | breaks h1 h2 h3 => rw [ht, hix] at h2; exact absurd rfl h2
    | done c h1 h2 => rw [ht, hix] at h2; exact absurd rfl h2
  have hT : ∀ s, AllT B 0 224 ⟨X, tk, 0, false, K, wh, lt, [], none, 0⟩ s → s = ⟨X, tk, 0, false, K, wh, lt, [], none, 0⟩ ∨ (s.X = [] ∧ s.tk.length = 8 ∧ s.ls = 1 ∧ s.br = false ∧ s.K = [] ∧ s.ol = [(⟨1, 3, 224⟩, some (blkE 9))]) := by
    intro s hs
    induction hs with
    | refl => exact .inl rfl
    | @step s hd sz X' tk' ls' br' lt' a dt e wh' oa ok _ hp hK ha hput ih =>
      rcases ih with rfl | ⟨h1, h2, h3, h4, h5, h6⟩
      · obtain ⟨rfl, rfl, _, _, rfl, h8, rfl, rfl⟩ := p0 hp
        refine .inr ⟨rfl, h8, rfl, rfl, ?_, ?_⟩
        · dsimp only; rw [h.k]; rfl
        · dsimp only at hK ⊢
          rw [h.k] at hK
          obtain rfl : (⟨1, 3, 224⟩ : Ask) = a := Option.some.inj hK
          rw [hans] at ha
          rw [← Option.some.inj ha]; rfl
      · obtain ⟨X2, tk2, ls2, br2, K2, wh2, lt2, ol2, oa2, ok2⟩ := s
        dsimp only at h1 h2 h3 h4 hp
        subst h1; subst h3; subst h4
        cases (p1 h2 hp).1
  intro s b hs
  cases hs with
  | @fin s hd sz br' ht hp =>
    rcases hT s ht with rfl | ⟨h1, h2, h3, h4, h5, h6⟩
    · cases (p0 hp).2.2.1
    · exact ⟨rfl, h6, h5⟩
  | @brk s hd sz e is X' tk' ls' br' lt' ht hp he =>
    rcases hT s ht with rfl | ⟨h1, h2, h3, h4, h5, h6⟩
    · exact absurd (p0 hp).2.2.2.1 he
    · obtain ⟨X2, tk2, ls2, br2, K2, wh2, lt2, ol2, oa2, ok2⟩ := s
      dsimp only at h1 h2 h3 h4 hp
      subst h1; subst h3; subst h4
      exact absurd (p1 h2 hp).2 he
  | @bad s hd sz X' tk' ls' br' lt' a e wh' oa ok ht hp hK ha hput =>
    rcases hT s ht with rfl | ⟨h1, h2, h3, h4, h5, h6⟩
    · obtain ⟨rfl, rfl, _, _, rfl, h8, rfl, rfl⟩ := p0 hp
      dsimp only at hK
      rw [h.k] at hK
      obtain rfl : (⟨1, 3, 224⟩ : Ask) = a := Option.some.inj hK
      rw [hans] at ha
      cases ha
    · obtain ⟨X2, tk2, ls2, br2, K2, wh2, lt2, ol2, oa2, ok2⟩ := s
      dsimp only at h1 h2 h3 h4 hp
      subst h1; subst h3; subst h4
      cases (p1 h2 hp).1
theorem wk_inv {bs : List UInt8} {lt : List Bool} {X : XC} {tk : List Bool} {nx : Nat} {K : AC} {wh : List UInt8} (h : WkP bs lt X tk nx K wh) : AlI 0 2306 2 nx ⟨X, tk, 0, false, K, wh, lt, [], none, 0⟩ := by
  obtain ⟨ch, hX, hch⟩ := h.x
  refine ⟨h.ok, ⟨?_, fun k hk => ?_⟩, by dsimp only; rw [h.wh]; rfl⟩
  · dsimp only; rw [hX, h.k]; simp only [List.map_cons, List.map_nil, hch]
  · dsimp only at hk; rw [h.k, List.mem_singleton] at hk; subst hk; decide
end Go.Proofs.Ytfgpnipnaaeafaa

