/- Lemmas for the proofs of this seat: no statement of the seat is claimed here. -/
import Derived.Test.YtfgpnipnaaeafaaLe
set_option linter.all false

namespace Go.Proofs.Ytfgpnipnaaeafaa
open Go Pw
set_option maxRecDepth 20000
set_option maxHeartbeats 4000000
theorem szR : sizeE ((16 : Nat) : Int) = 430 := by decide +kernel
theorem ptR : partN 16 = 296 := by decide +kernel
theorem rnR : rndN 430 = 432 := by decide +kernel
theorem dsR : dszN 16 4 = 4596 := by decide +kernel
theorem layR : DLay 0 16 432 4 4596 := ⟨by decide, by decide, by rw [szR, ptR], by rw [szR]; decide, by decide, by decide⟩
abbrev BR : List UInt8 := (writeE (List.replicate 4596 0) (List.replicate 4596 false) 0 (List.replicate 430 0) false 11).2
theorem wR : (writeE (List.replicate 4596 0) (List.replicate 4596 false) 0 (List.replicate 430 0) false 11).1 = 0 := by decide +kernel
abbrev LR : List Bool := (turnE (List.replicate 4596 false) (0 + partN 16) (sizeE ((16 : Nat) : Int) - partN 16) true 11).2
theorem lR : (turnE (List.replicate 4596 false) (0 + 296) (430 - 296) true 11).1 = 0 := by decide +kernel
theorem ixR : ixE BR 0 16 = 0 := by unfold ixE; rw [ptR]; decide +kernel
theorem avR : (numE BR (0 + 16 * 16 + 2) 2).1 = 0 := by decide +kernel
theorem dskR : DskI 0 16 432 4 4596 [] [] (List.replicate 16 false) 0 0 (List.replicate 4 0) LR BR := DskI.init layR (by decide) ((writeE_len _ _ _ _ _ _).trans List.length_replicate)
theorem dnew_R (p : Nat) : Sat Try.prog 11 [.pointer (some ⟨p, 0, none⟩), .int .u32 0, .agg #[.int .i64 16, .int .i64 4, .int .u32 256]] [memA p (List.replicate 4596 0) (List.replicate 4596 false)] (fun u L' => ∃ d r q m, u = .tuple #[.pointer (some ⟨d, 0, none⟩), .int .i64 0] ∧ L' = [row 79 d [.pointer (some ⟨p, 0, none⟩), .pointer (some ⟨r, 0, none⟩), .pointer (some ⟨q, 0, none⟩), .int .u32 256, .map (some m), .int .u32 1, .bool false], rgA r p 0 [] (List.replicate 16 false) 0 0 false, memA p BR LR, poolV q p 432 1041 (List.replicate 4 0), mapJ askV m (.u16, [])]) := by
  have h := dnew_spec p 0 16 4 256 (List.replicate 4596 0) (List.replicate 4596 false) (by rw [szR]; decide) (by decide) (by decide) (by decide) (by rw [szR, ptR]; decide) (by rw [szR]; exact wR) (by rw [szR, ptR]; exact lR) (by decide) (by decide) (by decide) (by decide) (by rw [szR, rnR, List.length_replicate]; decide) (by rw [List.length_replicate]; decide)
  refine h.post ?_
  rintro v L' ⟨d, r, q, m, rfl, rfl⟩
  refine ⟨_, ?_, d, r, q, m, rfl, rfl⟩
  rw [szR, rnR]
  exact Imp.refl _
instance {L R : List Assn} {p : Nat} [h1 : MemAt L p (List.replicate 4596 0) (List.replicate 4596 false) R] : FnR Try.prog 11 [.pointer (some ⟨p, 0, none⟩), .int .u32 0, .agg #[.int .i64 16, .int .i64 4, .int .u32 256]] L (fun kk => ∀ d r q m, kk (.tuple #[.pointer (some ⟨d, 0, none⟩), .int .i64 0]) (row 79 d [.pointer (some ⟨p, 0, none⟩), .pointer (some ⟨r, 0, none⟩), .pointer (some ⟨q, 0, none⟩), .int .u32 256, .map (some m), .int .u32 1, .bool false] :: rgA r p 0 [] (List.replicate 16 false) 0 0 false :: memA p BR LR :: poolV q p 432 1041 (List.replicate 4 0) :: mapJ askV m (.u16, []) :: R)) :=
  ⟨fun kk h => ⟨_, R, _, dnew_R p, .cons h1.h (.nil _), fun v L' hv => by obtain ⟨d, r, q, m, f1, f2⟩ := hv; rw [f1, f2]; exact h d r q m⟩⟩
end Go.Proofs.Ytfgpnipnaaeafaa


namespace Go.Proofs.Ytfgpnipnaaeafaa
open Go Pw
set_option maxRecDepth 20000
set_option maxHeartbeats 4000000
/-- VblkRow's invariant: i blocks were asked for, told were told. -/
structure RowI (bl : List Nat) (i told : Nat) (X : XC) (K : AC) (tk : List Bool) (nx : Nat) (wh : List UInt8) (lt : List Bool) (bs : List UInt8) : Prop where
  d : DskI 0 16 432 4 4596 X K tk nx told wh lt bs
  n : nx = i % 65536
  av : (numE bs (0 + 16 * 16 + 2) 2).1 = nx
  ct : K.length + told = i
  ids : ∀ k ∈ K, 1 ≤ k.2.id ∧ k.2.id ≤ i ∧ k.2.block = gt bl (k.2.id - 1)
theorem RowI.start {bl : List Nat} : RowI bl 0 0 [] [] (List.replicate 16 false) 0 (List.replicate 4 0) LR BR := ⟨dskR, rfl, avR, rfl, fun k hk => absurd hk List.not_mem_nil⟩
theorem RowI.read {bl : List Nat} {i told nx nx' a hd : Nat} {X X' : XC} {K : AC} {tk tk' : List Bool} {wh wh' : List UInt8} {lt lt' : List Bool} {bs bs' : List UInt8} (h : RowI bl i told X K tk nx wh lt bs) (D : DskI 0 16 432 4 4596 X' (K ++ [(hd, ⟨i + 1, gt bl i, a⟩)]) tk' nx' told wh' lt' bs') (M : AskM 0 16 a hd (gt bl i) nx nx' 4596 bs bs') : RowI bl (i + 1) told X' (K ++ [(hd, ⟨i + 1, gt bl i, a⟩)]) tk' nx' wh' lt' bs' := by
  have h1 := h.n
  have h2 := M.nxE
  have h3 := h.ct
  refine ⟨D, by omega, M.ixE, by rw [List.length_append]; simp only [List.length_cons, List.length_nil]; omega, fun k hk => ?_⟩
  rcases List.mem_append.1 hk with hk | hk
  · obtain ⟨h4, h5, h6⟩ := h.ids k hk
    exact ⟨h4, by omega, h6⟩
  · rw [List.mem_singleton] at hk
    subst hk
    exact ⟨by dsimp only; omega, Nat.le_refl _, rfl⟩
theorem RowI.poll {bl : List Nat} {i told nx hd : Nat} {a : Ask} {X X' : XC} {K : AC} {tk tk' : List Bool} {wh wh' : List UInt8} {lt lt' : List Bool} {bs dt : List UInt8} (h : RowI bl i told X K tk nx wh lt bs) (hK : atJ K hd = some a) (hd0 : dt.length = 1024) (D : DskI 0 16 432 4 4596 X' (Pw.delJ K hd) tk' nx (told + 1) wh' lt' (svB bs dt 0 16 a.at_ hd told 0)) : RowI bl i (told + 1) X' (Pw.delJ K hd) tk' nx wh' lt' (svB bs dt 0 16 a.at_ hd told 0) := by
  obtain ⟨U, V, hU, hD⟩ := atJ_splitA hK
  have hmem : ((hd, a) : Nat × Ask) ∈ K := by rw [hU]; exact List.mem_append_right _ List.mem_cons_self
  have geo := h.d.geo layR hmem
  dsimp only at geo
  have hAa := geo.Aa
  have haN := geo.aN
  have hbl := h.d.bl
  have hlB := svB_len (h := hd) (k := told) (st := 0) geo hbl hd0
  rw [ptR] at hAa
  refine ⟨D, h.n, ?_, ?_, fun k hk => h.ids k (delJ_mem hk)⟩
  · rw [numE_eq (cs := bs) (b := 0 + 16 * 16 + 2) (by omega) (by omega) (fun j hj => ?_)]
    · exact h.av
    · have hm := Nat.mod_lt told (show 0 < 16 by decide)
      rw [sv_get geo hbl hd0, ptR, if_neg (by omega), if_neg (by unfold slotE; rw [ptR]; omega), if_neg (by omega), if_neg (by omega)]
  · have h1 := h.ct
    rw [hU] at h1
    rw [hD]
    simp only [List.length_append, List.length_cons] at h1 ⊢
    omega
/-- Which head stands at which place. -/
theorem heads_at {K : AC} {j : Nat} (hnd : (K.map (·.1)).Nodup) (hj : j < K.length) : ∃ a, atJ K (gt (K.map (·.1)) j) = some a ∧ (gt (K.map (·.1)) j, a) ∈ K ∧ (Pw.delJ K (gt (K.map (·.1)) j)).map (·.1) = (K.map (·.1)).eraseIdx j := by
  induction K generalizing j with
  | nil => cases hj
  | cons x K ih =>
    obtain ⟨k, y⟩ := x
    rw [List.map_cons, List.nodup_cons] at hnd
    cases j with
    | zero =>
      refine ⟨y, ?_, List.mem_cons_self, ?_⟩
      · show atJ ((k, y) :: K) k = _
        unfold atJ; simp
      · show (Pw.delJ ((k, y) :: K) k).map (·.1) = _
        unfold Pw.delJ; simp [List.findIdx?_cons]
    | succ j =>
      have hj' : j < K.length := by simpa using hj
      obtain ⟨a, h1, h2, h3⟩ := ih hnd.2 hj'
      have hne : ¬ k = gt (K.map (·.1)) j := fun e => hnd.1 (by
        rw [e]; exact List.mem_map.2 ⟨_, h2, rfl⟩)
      have e : gt (((k, y) :: K).map (·.1)) (j + 1) = gt (K.map (·.1)) j := rfl
      rw [e]
      refine ⟨a, ?_, List.mem_cons_of_mem _ h2, ?_⟩
      · unfold atJ at h1 ⊢
        rw [List.find?_cons]
        simp only [hne, decide_false]
        exact h1
      · unfold Pw.delJ at h3 ⊢
        rw [List.findIdx?_cons]
        simp only [hne, decide_false, Bool.false_eq_true, if_false]
        cases hf : K.findIdx? (fun q => decide (q.1 = gt (K.map (·.1)) j)) with
        | none =>
          rw [hf] at h3
          simp only [Option.map_none, List.map_cons, List.eraseIdx_cons_succ]
          exact congrArg (List.cons k) h3
        | some m =>
          rw [hf] at h3
          simp only [Option.map_some, List.eraseIdx_cons_succ, List.map_cons]
          exact congrArg (List.cons k) h3
end Go.Proofs.Ytfgpnipnaaeafaa


namespace Go.Proofs.Ytfgpnipnaaeafaa
open Go Pw
set_option maxRecDepth 20000
set_option maxHeartbeats 4000000
theorem _root_.Pw.T.atRT {P : Program} {r : Rd} {c : Ctx} {L : List Assn} {Q : Exit → Env → Rd → World → Prop} {E : Env} (id : Nat) {ops : Array Oper} {dr : Bool} {y : Code} (h : T P r c L (.region id ops dr) (thenQ P r y Q) E) : T P r c L (.region id ops dr) (thenQ P r y Q) E := h
theorem _root_.Pw.T.cutRT {P : Program} {r : Rd} {c : Ctx} {L : List Assn} {Q : Exit → Env → Rd → World → Prop} (id : Nat) {n : Nat} {l0 : List (Nat × Value)} {g0 : Nat → Value} {S : Type} {ops : Array Oper} {dr : Bool} {y : Code} (sl : S → List (Nat × Value)) (H : S → List Assn) (I : S → Prop)
    (h : T P r c L (.region id ops dr) (cutQ r c n sl H I Q) ⟨n, l0, g0⟩) (k : ∀ s g, I s → T P r c (H s) y Q ⟨n, sl s, g⟩) : T P r c L (.region id ops dr) (thenQ P r y Q) ⟨n, l0, g0⟩ := by
  unfold T at *
  intro w hw
  refine wpIn_mono (h w hw) ?_
  rintro e a w' ⟨E', r', rfl, hq⟩
  cases e with
  | normal =>
    obtain ⟨rfl, s, en, hh, hI, hw'⟩ := hq
    refine ⟨_, _, Env.acd_congr (E'.act_has (sl s) hh) _, ?_⟩
    rw [en]
    exact k s _ hI w' hw'
  | _ => exact ⟨E', r', rfl, hq⟩
/-- What is read of a request that was just asked. -/
structure AskR (a hd b nx : Nat) (bs' : List UInt8) : Prop where
  rd : readE bs' (16 * hd) 8 = (leB a 8, 0)
  nb : numE bs' (a + 8) 8 = (b * 2, 0)
  en : (numE bs' (0 + 16 * 16 + 4 + 2 * (nx % 16)) 2).1 = hd
  le : leN (leB a 8) = a
  aN : a + 1041 ≤ 4596
  hd : hd < 16
theorem ask_read {X' : XC} {K : AC} {tk' : List Bool} {dn b a hd nx nx' ls : Nat} {wh' : List UInt8} {lt' : List Bool} {bs bs' : List UInt8} (D : DskI 0 16 432 4 4596 X' (K ++ [(hd, ⟨dn, b, a⟩)]) tk' nx' ls wh' lt' bs') (M : AskM 0 16 a hd b nx nx' 4596 bs bs') : AskR a hd b nx bs' := by
  obtain ⟨i, hi, ha, _⟩ := D.sl (hd, ⟨dn, b, a⟩) (List.mem_append_right _ List.mem_cons_self)
  dsimp only at ha
  have hbl := D.bl
  have hh := M.hdL
  have haN : a + 1041 ≤ 4596 := by omega
  have hnb := M.nbE
  refine ⟨?_, ?_, M.enE, leN_leB (by omega), haN, hh⟩
  · unfold readE
    rw [if_neg (by decide), if_pos (by show _ + 8 ≤ _; omega)]
    congr 1
    refine List.ext_getElem? fun j => ?_
    show ((bs'.drop (16 * hd)).take 8)[j]? = _
    by_cases hj : j < 8
    · rw [List.getElem?_take, if_pos hj, List.getElem?_drop, ← M.adE j hj, Nat.zero_add]
    · rw [List.getElem?_eq_none (by rw [List.length_take]; omega), List.getElem?_eq_none (by rw [leB_len]; omega)]
  · unfold numE at hnb ⊢
    rw [if_pos (by omega)] at hnb ⊢
    rw [← hnb]
theorem RowI.nodup {bl : List Nat} {i told : Nat} {X : XC} {K : AC} {tk : List Bool} {nx : Nat} {wh : List UInt8} {lt : List Bool} {bs : List UInt8} (h : RowI bl i told X K tk nx wh lt bs) : (K.map (·.1)).Nodup := by
  have h1 := h.d.ok.keys
  have h2 : X.map (·.1) = K.map (·.1) := by
    have h3 := congrArg (List.map Prod.fst) h.d.pr.pr
    rw [List.map_map, List.map_map] at h3
    exact h3
  rwa [h2] at h1
theorem RowI.hd {bl : List Nat} {i told : Nat} {X : XC} {K : AC} {tk : List Bool} {nx : Nat} {wh : List UInt8} {lt : List Bool} {bs : List UInt8} (h : RowI bl i told X K tk nx wh lt bs) {k : Nat × Ask} (hk : k ∈ K) : k.1 < 16 := by
  have h2 : X.map (·.1) = K.map (·.1) := by
    have h3 := congrArg (List.map Prod.fst) h.d.pr.pr
    rw [List.map_map, List.map_map] at h3
    exact h3
  have h3 : k.1 ∈ X.map (·.1) := by rw [h2]; exact List.mem_map.2 ⟨k, hk, rfl⟩
  obtain ⟨y, hy, e⟩ := List.mem_map.1 h3
  obtain ⟨h4, h5⟩ := h.d.ok.hd y hy
  have h6 := (h.d.ok.ch y hy).d k.1 (by rw [← e, ← h5]; exact gt_mem h4)
  rwa [h.d.tl] at h6
theorem er_list {α : Type} {Y : List α} {i : Nat} : Y.take i ++ (Y.drop (i + 1)).take (Y.length - (i + 1)) = Y.eraseIdx i := by
  rw [List.eraseIdx_eq_take_drop_succ, List.take_of_length_le (l := Y.drop (i + 1)) (by rw [List.length_drop]; omega)]
theorem er_len {α : Type} {Y : List α} {i : Nat} (h : i < Y.length) : 0 + i + (Y.length - (i + 1)) = (Y.eraseIdx i).length := by
  rw [List.length_eraseIdx, if_pos h]; omega
/-- One of those that wait, by its place. -/
theorem row_at {bl W : List Nat} {m told : Nat} {X : XC} {K : AC} {tk : List Bool} {nx j : Nat} {wh : List UInt8} {lt : List Bool} {bs : List UInt8} (h : RowI bl m told X K tk nx wh lt bs) (hW : W = K.map (·.1)) (hj : j < W.length) : ∃ a, atJ K (gt W j) = some a ∧ (gt W j, a) ∈ K ∧ W.eraseIdx j = (Pw.delJ K (gt W j)).map (·.1) ∧ gt W j < 16 ∧ 1 ≤ a.id ∧ a.id ≤ m ∧ a.block = gt bl (a.id - 1) := by
  subst hW
  obtain ⟨a, h1, h2, h3⟩ := heads_at h.nodup (by rwa [List.length_map] at hj)
  obtain ⟨h4, h5, h6⟩ := h.ids _ h2
  exact ⟨a, h1, h2, h3.symm, h.hd h2, h4, h5, h6⟩
end Go.Proofs.Ytfgpnipnaaeafaa

