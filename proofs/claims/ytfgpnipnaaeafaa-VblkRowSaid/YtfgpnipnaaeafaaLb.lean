/- Lemmas for the proofs of this seat: no statement of the seat is claimed here. -/
import Derived.Test.YtfgpnipnaaeafaaLa
import Derived.Test.YtfgpnipnaaeafaaKc
set_option linter.all false

namespace Go.Proofs.Ytfgpnipnaaeafaa
open Go Pw
set_option maxRecDepth 20000
set_option maxHeartbeats 4000000
set_option synthInstance.maxHeartbeats 400000
set_option synthInstance.maxSize 4000
set_option maxHeartbeats 8000000
theorem _root_.Pw.T.slP2 {P : Program} {r : Rd} {c : Ctx} {L R : List Assn} {Q : Exit → Env → Rd → World → Prop} {E : Env} {code : Code} {e : TypeId} {sz n k : Nat} {a : Option Addr} {xs : List Value} (h : InpP a sz n k → T P r c L code Q E) (hd : Del (Pw.sl e sz (.slice a n k) n xs) L R) : T P r c L code Q E := by
  unfold T at h ⊢
  intro w hw
  refine h ⟨fun hn => ?_⟩ w hw
  obtain ⟨e1, e2, e3, f1, f2, hdj, hf1, hf2, hsl, hl⟩ := hw.perm hd.perm
  rcases hsl with ⟨hv, h0, hxs⟩ | ⟨b, k, rest, hv, hxl, hrl, hrow⟩
  · omega
  · simp only [Value.slice.injEq] at hv
    exact ⟨b, 0, hv.1⟩

instance : Inhabited Ask := ⟨ask0⟩
abbrev oneW : List (Ask × Option (List UInt8)) := [(⟨1, 3, 224⟩, some (blkE 9))]
theorem dnew_W (p : Nat) : Sat Try.prog 11 [.pointer (some ⟨p, 0, none⟩), .int .u32 0, .agg #[.int .i64 8, .int .i64 2, .int .u32 8]] [memA p BW (List.replicate 2306 false)] (fun u L' => ∃ d r q m, u = .tuple #[.pointer (some ⟨d, 0, none⟩), .int .i64 0] ∧ L' = [row 79 d [.pointer (some ⟨p, 0, none⟩), .pointer (some ⟨r, 0, none⟩), .pointer (some ⟨q, 0, none⟩), .int .u32 8, .map (some m), .int .u32 1, .bool false], rgA r p 0 [] (List.replicate 8 false) 0 0 false, memA p B1W L1W, poolV q p 224 1041 [0, 0], mapJ askV m (.u16, [])]) := by
  have h := dnew_spec p 0 8 2 8 BW (List.replicate 2306 false) (by rw [szW]; decide) (by decide) (by decide) (by decide) (by rw [szW, ptW]; decide) (by rw [szW]; exact wW) (by rw [szW, ptW]; exact lW) (by decide) (by decide) (by decide) (by decide) (by rw [szW, rnW, List.length_replicate]; decide) (by rw [List.length_replicate]; decide)
  rw [szW, ptW, rnW] at h
  exact h
instance {L R : List Assn} {p : Nat} [h1 : MemAt L p (List.replicate 2306 0) (List.replicate 2306 false) R] : FnR Try.prog 11 [.pointer (some ⟨p, 0, none⟩), .int .u32 0, .agg #[.int .i64 8, .int .i64 2, .int .u32 8]] L (fun kk => ∀ d r q m, kk (.tuple #[.pointer (some ⟨d, 0, none⟩), .int .i64 0]) (row 79 d [.pointer (some ⟨p, 0, none⟩), .pointer (some ⟨r, 0, none⟩), .pointer (some ⟨q, 0, none⟩), .int .u32 8, .map (some m), .int .u32 1, .bool false] :: rgA r p 0 [] (List.replicate 8 false) 0 0 false :: memA p B1W L1W :: poolV q p 224 1041 [0, 0] :: mapJ askV m (.u16, []) :: R)) :=
  ⟨fun kk h => ⟨_, R, _, dnew_W p, .cons h1.h (.nil _), fun v L' hv => by obtain ⟨d, r, q, m, f1, f2⟩ := hv; rw [f1, f2]; exact h d r q m⟩⟩
theorem read_W (d p r q m : Nat) (bs : List UInt8) (hb : bs.length = 2306) : Sat Try.prog 15 [.pointer (some ⟨d, 0, none⟩), .int .u32 3] [row 79 d [.pointer (some ⟨p, 0, none⟩), .pointer (some ⟨r, 0, none⟩), .pointer (some ⟨q, 0, none⟩), .int .u32 8, .map (some m), .int .u32 1, .bool false], rgA r p 0 [] (List.replicate 8 false) 0 0 false, memA p bs L1W, poolV q p 224 1041 [0, 0], mapJ askV m (.u16, [])] (fun u L' => ∃ bs' lt' X' tk' nx' K' wh', WkP bs' lt' X' tk' nx' K' wh' ∧ u = .tuple #[.int .u32 1, .int .i64 0] ∧ L' = [row 79 d [.pointer (some ⟨p, 0, none⟩), .pointer (some ⟨r, 0, none⟩), .pointer (some ⟨q, 0, none⟩), .int .u32 8, .map (some m), .int .u32 2, .bool false], rgA r p 0 X' tk' nx' 0 false, memA p bs' lt', poolV q p 224 1041 wh', mapJ askV m (.u16, K')]) := by
  have h := read_spec d p r q m 0 224 2306 8 0 0 3 1 false bs [0, 0] L1W (List.replicate 8 false) [] [] (rg0 (by decide) (by decide) (by decide) (by decide)) ⟨rfl, fun k hk => absurd hk List.not_mem_nil⟩ hb (by decide) (by decide) (by decide) (by decide) (by decide) (by decide)
  refine h.post ?_
  rintro v L' ⟨id, e, dn', fl', bs', lt', X', tk', nx', K', wh', hr, rfl, rfl⟩
  obtain ⟨rfl, rfl, rfl, rfl, hw⟩ := wk_read hb hr
  exact ⟨_, Imp.refl _, bs', lt', X', tk', nx', K', wh', hw, rfl, rfl⟩
instance {L R R1 R2 R3 R4 : List Assn} {d p r q m : Nat} {bs : List UInt8} [h1 : RowDel L d 79 [.pointer (some ⟨p, 0, none⟩), .pointer (some ⟨r, 0, none⟩), .pointer (some ⟨q, 0, none⟩), .int .u32 8, .map (some m), .int .u32 1, .bool false] R1] [h2 : RgAt R1 r p 0 [] (List.replicate 8 false) 0 0 false R2] [h3 : MemAt R2 p bs L1W R3] [h4 : PoAt R3 q p 224 1041 [0, 0] R4] [h5 : Fam (mapJ askV) R4 m (.u16, ([] : AC)) R] : FnR Try.prog 15 [.pointer (some ⟨d, 0, none⟩), .int .u32 3] L (fun kk => Vc (bs.length = 2306) (∀ bs' lt' X' tk' nx' K' wh', WkP bs' lt' X' tk' nx' K' wh' → kk (.tuple #[.int .u32 1, .int .i64 0]) (row 79 d [.pointer (some ⟨p, 0, none⟩), .pointer (some ⟨r, 0, none⟩), .pointer (some ⟨q, 0, none⟩), .int .u32 8, .map (some m), .int .u32 2, .bool false] :: rgA r p 0 X' tk' nx' 0 false :: memA p bs' lt' :: poolV q p 224 1041 wh' :: mapJ askV m (.u16, K') :: R))) :=
  ⟨fun kk h => ⟨_, R, _, read_W d p r q m bs h.l, .cons h1.h (.cons h2.h (.cons h3.h (.cons h4.h (.cons h5.h (.nil _))))), fun v L' hv => by obtain ⟨bs', lt', X', tk', nx', K', wh', f0, f1, f2⟩ := hv; rw [f1, f2]; exact h.r bs' lt' X' tk' nx' K' wh' f0⟩⟩
instance {L R : List Assn} {d p r q m : Nat} {x : Int} [h1 : RowDel L d 79 [.pointer (some ⟨p, 0, none⟩), .pointer (some ⟨r, 0, none⟩), .pointer (some ⟨q, 0, none⟩), .int .u32 8, .map (some m), .int .u32 x, .bool false] R] : FnR Try.prog 15 [.pointer (some ⟨d, 0, none⟩), .int .u32 8] L (fun kk => kk (.tuple #[.int .u32 0, .int .i64 2]) (row 79 d [.pointer (some ⟨p, 0, none⟩), .pointer (some ⟨r, 0, none⟩), .pointer (some ⟨q, 0, none⟩), .int .u32 8, .map (some m), .int .u32 x, .bool false] :: R)) :=
  ⟨fun kk h => ⟨_, R, _, read_arg d p r q m 8 8 x (Nat.le_refl _) (by decide), .cons h1.h (.nil _), fun v L' hv => by rw [hv.1, hv.2]; exact h⟩⟩
instance {L R R1 R2 : List Assn} {p r nc nx0 : Nat} {X : XC} {tk lt : List Bool} {bs : List UInt8} [h1 : RgAt L r p 0 X tk nx0 0 false R1] [h2 : MemAt R1 p bs lt R2] [h3 : RowDel R2 nc 39 [.int .u16 0] R] : FnR Try.prog 17 [.pointer (some ⟨p, 0, none⟩), .pointer (some ⟨r, 0, none⟩), .int .i64 8, .pointer (some ⟨nc, 0, none⟩), .int .u16 0, str (blkE 9), .int .u8 0] L (fun kk => ∃ nx K wh, WkP bs lt X tk nx K wh ∧ kk (.bool true) (rgA r p 0 X tk nx0 0 false :: memA p (svB bs (blkE 9) 0 8 224 0 0 0) lt :: row 39 nc [.int .u16 1] :: R)) :=
  ⟨fun kk h => by
    obtain ⟨nx, K, wh, hw, h9⟩ := h
    obtain ⟨ch, hX, hl⟩ := hw.x
    have hd := blkE_len 9
    have hlt := hw.lt
    subst hlt
    have hpt : partN tk.length = partN 8 := by rw [hw.tl]
    exact ⟨_, R, _, serves_spec p r 0 8 nx0 0 0 0 nc 224 0 false X tk bs _ _ _ _ (blkE 9) LW ch (by rw [hX]; rfl) hl hd (sv_w1 geoW hw.bl hd) (sv_w2 geoW hw.bl hd) (by rw [hpt]; exact sv_w3 geoW hw.bl hd) (by rw [hpt]; exact sv_w4 geoW hw.bl hd) (by decide) (by decide) (by rw [hw.tl]; decide) (by rw [hw.tl, ptW]; decide) (by decide) (by decide) (by decide) (by decide) (by decide), .cons h1.h (.cons h2.h (.cons h3.h (.nil _))), fun v L' hv => by rw [hv.1, hv.2]; exact h9⟩⟩
instance {L R R1 R2 R3 R4 : List Assn} {d p r q m nx : Nat} {x : Int} {X : XC} {tk lt : List Bool} {K : AC} {bs wh : List UInt8} [h1 : RowDel L d 79 [.pointer (some ⟨p, 0, none⟩), .pointer (some ⟨r, 0, none⟩), .pointer (some ⟨q, 0, none⟩), .int .u32 8, .map (some m), .int .u32 x, .bool false] R1] [h2 : RgAt R1 r p 0 X tk nx 0 false R2] [h3 : MemAt R2 p (svB bs (blkE 9) 0 8 224 0 0 0) lt R3] [h4 : Fam (mapJ askV) R3 m (.u16, K) R4] [h5 : PoAt R4 q p 224 1041 wh R] : FnR Try.prog 19 [.pointer (some ⟨d, 0, none⟩)] L (fun kk => ∃ (_ : WkP bs lt X tk nx K wh), ∀ X' tk' ls' br' lt' wh' oa ok, kk (.tuple #[.slice oa 1 ok, .int .i64 0]) (row 79 d [.pointer (some ⟨p, 0, none⟩), .pointer (some ⟨r, 0, none⟩), .pointer (some ⟨q, 0, none⟩), .int .u32 8, .map (some m), .int .u32 x, .bool false] :: rgA r p 0 X' tk' nx ls' br' :: memA p (svB bs (blkE 9) 0 8 224 0 0 0) lt' :: mapJ askV m (.u16, []) :: poolV q p 224 1041 wh' :: Pw.sl 56 (3 + 1) (.slice oa 1 ok) 1 (oneW.flatMap obV) :: R)) :=
  ⟨fun kk h => by
    obtain ⟨hw, h9⟩ := h
    refine ⟨_, R, _, poll_good d p r q m 0 224 2306 2 nx 0 8 x false (svB bs (blkE 9) 0 8 224 0 0 0) wh lt tk X K (wk_inv hw) (svB_len geoW hw.bl (blkE_len 9)) (by decide) (by decide) (fun s hs => by cases (wk_all hw s true hs).1), .cons h1.h (.cons h2.h (.cons h3.h (.cons h4.h (.cons h5.h (.nil _))))), fun v L' hv => ?_⟩
    obtain ⟨s, hs, rfl, rfl⟩ := hv
    obtain ⟨_, ho, hk⟩ := wk_all hw s false hs
    rw [ho, hk]
    exact h9 _ _ _ _ _ _ _ _⟩
theorem eg56 : Try.prog.eqGuardType Try.prog.depth 56 = false := by kernel_rfl
theorem sih56 : Try.prog.stoodInHeld 56 = false := by kernel_rfl
theorem plx30 : plainT Try.prog 30 = true := by kernel_rfl
theorem szx30 : Try.prog.cellsOf 30 = 0 + 1 := by kernel_rfl
theorem plx9 : plainT Try.prog 9 = true := by kernel_rfl
theorem szx9 : Try.prog.cellsOf 9 = 0 + 1 := by kernel_rfl
theorem plx26 : plainT Try.prog 26 = true := by kernel_rfl
theorem szx26 : Try.prog.cellsOf 26 = 0 + 1 := by kernel_rfl
theorem eqBlk (a b e a' b' e' : Int) (s s' : List UInt8) (w : World) : (Op.equalIn (9998 + 1 + 1) 56 (.agg [.int .u32 a, .int .u32 b, str s, .int .i64 e].toArray) (.agg [.int .u32 a', .int .u32 b', str s', .int .i64 e'].toArray)).run Try.prog w = .ok (decide (a = a' ∧ b = b' ∧ s = s' ∧ e = e')) w := by
  refine (eqSt (n := 9998 + 1) Try.underlying56 sih56 (.cons (by decide) rfl rfl plx30 szx30 (fun w => run_eqI _ _ _ Try.underlying30 w) (.cons (by decide) rfl rfl plx30 szx30 (fun w => run_eqI _ _ _ Try.underlying30 w) (.cons (by decide) rfl rfl plx9 szx9 (fun w => run_eqStr _ _ _ Try.underlying9 w) (.cons (by decide) rfl rfl plx26 szx26 (fun w => run_eqI _ _ _ Try.underlying26 w) .nil)))) w).trans ?_
  congr 1
  rw [Bool.eq_iff_iff]
  simp only [List.all_cons, List.all_nil, id, Bool.and_eq_true, decide_eq_true_eq, and_true]
instance (priority := 1100) {a b e a' b' e' : Int} {s s' : List UInt8} : Pu Try.prog (.bin .eql 56 (.agg #[.int .u32 a, .int .u32 b, str s, .int .i64 e]) (.agg #[.int .u32 a', .int .u32 b', str s', .int .i64 e'])) (fun k => k (.bool (decide (a = a' ∧ b = b' ∧ s = s' ∧ e = e')))) := ⟨fun E d_ op ty pos af g hr k hk => by
  cases hr with | bin e1 e2 => exact ⟨_, DP.eqOf e1 e2 eg56 (eqBlk a b e a' b' e' s s'), hk⟩⟩
attribute [local irreducible] blkE svB
theorem works_spec  :
    Sat Try.prog 7 [] [] (fun u L' => u = .bool true ∧ L' = []) := by
  have hg2 : True := trivial
  have hg9 : True := trivial
  have hg12 : True := trivial
  all_goals
    refine Sat.enter Try.func7 rfl Try.ntmps7 rfl (fun c R => ?_)
    try simp only [List.cons_append, List.nil_append]
    repeat' (first
      | (refine T.atR 2 ?_; clear hg2; rw [dsW])
      | (refine T.atR 9 ?_; clear hg9; rename_i bs9 lt9 X9 tk9 nx9 K9 wh9; have hwk := b)
      | (refine ⟨_, _, _, hwk, ?_⟩)
      | (refine ⟨hwk, ?_⟩)
      | (refine T.atR 12 ?_; clear hg12; refine T.slP2 (e := 56) ?_ (by repeat first | with_reducible exact Del.head _ _ | with_reducible apply Del.tail); intro hIW)
      | (refine finAt ?_; refine Fini.of ⟨rfl, rfl⟩ ?_; exact (by simp only [List.cons_append, List.nil_append]; repeat first | (apply Imp.pull; focus ((repeat first | with_reducible exact Del.head _ _ | with_reducible apply Del.tail); done)) | with_reducible exact Imp.refl _ | apply Imp.drop))
      | (refine atDS ?_; refine Pw.LkG.stkg ?_)
      | (exact absurd (And.intro rfl (And.intro rfl (And.intro rfl rfl))) hc)
      | refine T.pk 12 [22, 32, 37] (.p 0 (.p 1 (.p 2 (.p 3 (.p 4 (.p 5 (.p 6 (.p 7 (.p 8 (.p 9 (.p 10 (.p 11 (.p 12 (.p 13 (.p 14 (.p 15 (.p 16 (.p 17 (.p 18 (.p 19 (.p 20 (.g 21 (.n 22 (.p 23 (.p 24 (.p 25 (.p 26 (.p 27 (.p 28 (.p 29 (.p 30 (.p 31 (.n 32 (.p 33 (.p 34 (.p 35 (.p 36 (.n 37 (.p 38 (.p 39 (.p 40 .fin))))))))))))))))))))))))))))))))))))))))) ?_
      | refine And.intro (fun hc => ?_) (fun hc => ?_)
      | refine And.intro ?_ ?_
      | intro b
      | ((first | refine atDS ?_ | refine atDSK ?_ | refine atDN ?_); refine stk ?_)
      | refine stp ?_
      | refine TQ.finC ?_
      | refine TQ.finC2 ?_
      | refine TQ.finC3 ?_
      | refine ⟨fun hc => ?_, fun hc => ?_⟩
      | refine Ei.f ?_
      | refine ⟨?_, ?_⟩
      | intro b
      | exact absurd rfl hc
      | exact absurd hc (by decide)
      | omega
      | (dsimp only; omega)
      | fail)
instance {L : List Assn} : FnR Try.prog 7 [] L (fun kk => kk (.bool true) L) := ⟨fun kk h => ⟨[], L, _, works_spec, .nil _, fun v L' hv => by rw [hv.1, hv.2]; exact h⟩⟩

end Go.Proofs.Ytfgpnipnaaeafaa


namespace Go.Proofs.Ytfgpnipnaaeafaa
open Go Pw
set_option maxRecDepth 20000
set_option maxHeartbeats 4000000
set_option synthInstance.maxHeartbeats 400000
set_option synthInstance.maxSize 4000
set_option maxHeartbeats 8000000
theorem dpoll_nil  :
    Sat Try.prog 19 [.pointer none] [] (fun u L' => u = .tuple #[.slice none 0 0, .int .i64 1] ∧ L' = []) := by
  intro c
  refine SatEC.calm ?_
  all_goals
    refine SatEC.enterD Try.func19 rfl Try.ntmps19 rfl (fun R => ?_)
    try simp only [List.cons_append, List.nil_append]
    repeat' (first
      | (refine TQ.atOQ ?_; refine TQ.outR ?_; refine TQ.finCC ?_; refine finAt ?_; refine Fini.of ⟨rfl, rfl⟩ ?_; exact (by simp only [List.cons_append, List.nil_append]; repeat first | (apply Imp.pull; focus ((repeat first | with_reducible exact Del.head _ _ | with_reducible apply Del.tail); done)) | with_reducible exact Imp.refl _ | apply Imp.drop))
      | refine And.intro (fun hc => ?_) (fun hc => ?_)
      | refine And.intro ?_ ?_
      | intro b
      | refine stp ?_
      | refine TQ.finC ?_
      | refine TQ.finC2 ?_
      | refine TQ.finC3 ?_
      | refine ⟨fun hc => ?_, fun hc => ?_⟩
      | refine Ei.f ?_
      | refine ⟨?_, ?_⟩
      | intro b
      | exact absurd rfl hc
      | exact absurd hc (by decide)
      | omega
      | (dsimp only; omega)
      | fail)
instance {L : List Assn} : FnR Try.prog 19 [.pointer none] L (fun kk => kk (.tuple #[.slice none 0 0, .int .i64 1]) L) := ⟨fun kk h => ⟨[], L, _, dpoll_nil, .nil _, fun v L' hv => by rw [hv.1, hv.2]; exact h⟩⟩
theorem none_law (b : Nat) (hb : b < 4294967296) :
    Sat Try.prog 4 [.int .u32 (b : Nat)] [] (fun u L' => u = .bool true ∧ L' = []) := by
  all_goals
    refine Sat.enter Try.func4 rfl Try.ntmps4 rfl (fun c R => ?_)
    try simp only [List.cons_append, List.nil_append]
    repeat' (first
      | (refine finAt ?_; refine Fini.of ⟨rfl, rfl⟩ ?_; exact (by simp only [List.cons_append, List.nil_append]; repeat first | (apply Imp.pull; focus ((repeat first | with_reducible exact Del.head _ _ | with_reducible apply Del.tail); done)) | with_reducible exact Imp.refl _ | apply Imp.drop))
      | refine And.intro (fun hc => ?_) (fun hc => ?_)
      | refine And.intro ?_ ?_
      | intro b
      | refine stp ?_
      | refine TQ.finC ?_
      | refine TQ.finC2 ?_
      | refine TQ.finC3 ?_
      | refine ⟨fun hc => ?_, fun hc => ?_⟩
      | refine Ei.f ?_
      | refine ⟨?_, ?_⟩
      | intro b
      | exact absurd rfl hc
      | exact absurd hc (by decide)
      | omega
      | (dsimp only; omega)
      | fail)

end Go.Proofs.Ytfgpnipnaaeafaa

