/- Lemmas for the proofs of this seat: no statement of the seat is claimed here. -/
import Derived.Test.YtfgpnipnaaeafaaLf
import Derived.Test.YtfgpnipnaaeafaaKc
set_option linter.all false

namespace Go.Proofs.Ytfgpnipnaaeafaa
open Go Pw
set_option maxRecDepth 20000
set_option maxHeartbeats 4000000
set_option synthInstance.maxHeartbeats 400000
set_option synthInstance.maxSize 4000
set_option maxHeartbeats 8000000
structure RS where
  (i m told : Nat) (X : XC) (tk : List Bool) (nx : Nat) (K : AC) (W : List Nat) (wh : List UInt8) (lt : List Bool) (bs : List UInt8) (wa : Option Addr) (wk : Nat)
theorem _root_.Pw.T.atKQ8 {P : Program} {r : Rd} {c : Ctx} {L : List Assn} {Q : Exit → Env → Rd → World → Prop} {E : Env} (cd : Operand) {x1 x2 : Code} (h : T P r c L (.cond cd x1 x2) Q E) : T P r c L (.cond cd x1 x2) Q E := h
abbrev u8V (n : Nat) : List Value := [.int .u8 n]
instance : FLen u8V 1 := ⟨fun _ => rfl⟩
instance : FLen u8V (0 + 1) := ⟨fun _ => rfl⟩
abbrev u16L (n : Nat) : List Value := [.int .u16 n]
instance : FLen u16L 1 := ⟨fun _ => rfl⟩
instance : FLen u16L (0 + 1) := ⟨fun _ => rfl⟩
instance {n : Nat} : InvL u16L [.int .u16 ((n : Nat) : Int)] n := ⟨rfl⟩
instance {l : List Nat} {i : Nat} : ElV (l.flatMap u16L) i (.int .u16 (gt l i : Nat)) (i < l.length) := ⟨fun h => by
  have := flat_elem (f := u16L) (k := 1) (fun _ => rfl) (gt_get h) 0 _ rfl
  rw [Nat.mul_one] at this
  exact this⟩
instance (priority := 2000) {l : List Nat} {i : Nat} : ElV (l.flatMap u16L) (i * (0 + 1)) (.int .u16 (gt l i : Nat)) (i < l.length) := ⟨fun h => by
  have := flat_elem (f := u16L) (k := 1) (fun _ => rfl) (gt_get h) 0 _ rfl
  exact this⟩
theorem imp_w0 {L : List Assn} : Imp L (Pw.sl 39 (0 + 1) (.slice none ([] : List Nat).length 0) ([] : List Nat).length (([] : List Nat).flatMap u16L) :: L) := Imp.slN (Imp.refl L)
instance (priority := 1500) {a b c d : Value} : ElV [a, b, c, d] (0 * (3 + 1) + 0) a True := ⟨fun _ => rfl⟩
instance (priority := 1500) {a b c d : Value} : ElV [a, b, c, d] (0 * (3 + 1) + 1) b True := ⟨fun _ => rfl⟩
instance (priority := 1500) {a b c d : Value} : ElV [a, b, c, d] (0 * (3 + 1) + 2) c True := ⟨fun _ => rfl⟩
instance (priority := 1500) {a b c d : Value} : ElV [a, b, c, d] (0 * (3 + 1) + 3) d True := ⟨fun _ => rfl⟩
attribute [local irreducible] svB blkE numE readE
theorem row_law (h : Array Obj) (bl os : List Nat) (a0 a1 : Option Addr) (k0 k1 : Nat) [hI0 : InpD h a0 (0 + 1) bl.length k0 (bl.flatMap u8V)] [hIP0 : InpP a0 (0 + 1) bl.length k0] [hI1 : InpD h a1 (0 + 1) os.length k1 (os.flatMap u8V)] [hIP1 : InpP a1 (0 + 1) os.length k1] (hbl : ∀ j, gt bl j < 256) (hos : ∀ j, gt os j < 256) (hl0 : bl.length ≤ 140737488351232) (hl1 : os.length ≤ 140737488351232) :
    Sat Try.prog 5 [.slice a0 bl.length k0, .slice a1 os.length k1] [old h] (fun u L' => u = .bool true ∧ L' = [old h]) := by
  have hg3 : True := trivial
  have hg5 : True := trivial
  have hg8 : True := trivial
  have hg11 : True := trivial
  have hg18 : True := trivial
  have hg21 : True := trivial
  have hg22 : True := trivial
  have hg23 : True := trivial
  have hg24 : True := trivial
  have hg28 : True := trivial
  have hg31 : True := trivial
  have hg33 : True := trivial
  have hg34 : True := trivial
  have hg38 : True := trivial
  have hg40 : True := trivial
  all_goals
    refine Sat.enter Try.func5 rfl Try.ntmps5 rfl (fun c R => ?_)
    try simp only [List.cons_append, List.nil_append]
    repeat' (first
      | (refine T.atR 3 ?_; clear hg3; have h60 : bl.length ≤ 60 := (by omega); have h61 : os.length ≤ 60 := (by omega))
      | (refine T.atR 5 ?_; clear hg5; rw [dsR])
      | (refine T.atR 8 ?_; clear hg8; rename_i p_ dd rr qq; obtain ⟨mm, hmm⟩ : ∃ x, x = b := ⟨_, rfl⟩; subst hmm)
      | (refine T.atR 11 ?_; clear hg11; obtain ⟨nc, hnc⟩ : ∃ x, x = b := ⟨_, rfl⟩; subst hnc; refine T.ent (Ent.imp imp_w0) ?_)
      | (refine T.atB 0 ?_; obtain ⟨cb, hcb⟩ : ∃ x, x = b := ⟨_, rfl⟩; subst hcb; refine T.ent (Ent.imp (show Imp _ (([row 79 dd [.pointer (some ⟨p_, 0, none⟩), .pointer (some ⟨rr, 0, none⟩), .pointer (some ⟨qq, 0, none⟩), .int .u32 256, .map (some mm), .int .u32 ((⟨0, 0, 0, [], List.replicate 16 false, 0, [], [], List.replicate 4 0, LR, BR, none, 0⟩ : RS).m + 1 : Nat), .bool false], rgA rr p_ 0 (⟨0, 0, 0, [], List.replicate 16 false, 0, [], [], List.replicate 4 0, LR, BR, none, 0⟩ : RS).X (⟨0, 0, 0, [], List.replicate 16 false, 0, [], [], List.replicate 4 0, LR, BR, none, 0⟩ : RS).tk (⟨0, 0, 0, [], List.replicate 16 false, 0, [], [], List.replicate 4 0, LR, BR, none, 0⟩ : RS).nx (⟨0, 0, 0, [], List.replicate 16 false, 0, [], [], List.replicate 4 0, LR, BR, none, 0⟩ : RS).told false, memA p_ (⟨0, 0, 0, [], List.replicate 16 false, 0, [], [], List.replicate 4 0, LR, BR, none, 0⟩ : RS).bs (⟨0, 0, 0, [], List.replicate 16 false, 0, [], [], List.replicate 4 0, LR, BR, none, 0⟩ : RS).lt, poolV qq p_ 432 1041 (⟨0, 0, 0, [], List.replicate 16 false, 0, [], [], List.replicate 4 0, LR, BR, none, 0⟩ : RS).wh, mapJ askV mm (.u16, (⟨0, 0, 0, [], List.replicate 16 false, 0, [], [], List.replicate 4 0, LR, BR, none, 0⟩ : RS).K), row 39 nc [.int .u16 ((⟨0, 0, 0, [], List.replicate 16 false, 0, [], [], List.replicate 4 0, LR, BR, none, 0⟩ : RS).told : Nat)], Pw.sl 39 (0 + 1) (.slice (⟨0, 0, 0, [], List.replicate 16 false, 0, [], [], List.replicate 4 0, LR, BR, none, 0⟩ : RS).wa (⟨0, 0, 0, [], List.replicate 16 false, 0, [], [], List.replicate 4 0, LR, BR, none, 0⟩ : RS).W.length (⟨0, 0, 0, [], List.replicate 16 false, 0, [], [], List.replicate 4 0, LR, BR, none, 0⟩ : RS).wk) (⟨0, 0, 0, [], List.replicate 16 false, 0, [], [], List.replicate 4 0, LR, BR, none, 0⟩ : RS).W.length ((⟨0, 0, 0, [], List.replicate 16 false, 0, [], [], List.replicate 4 0, LR, BR, none, 0⟩ : RS).W.flatMap u16L)] ++ [row 32 cb [.int .i64 16, .int .i64 4, .int .u32 256], old h]) ++ R) from (by repeat first | exact Imp.refl _ | (apply Imp.pull; focus ((repeat first | exact Del.head _ _ | apply Del.tail); done)) | apply Imp.drop))) ?_; simp only [List.cons_append, List.nil_append]; refine T.lpa 0 [(0, _), (1, _), (6, _), (8, _), (9, _)] (⟨0, 0, 0, [], List.replicate 16 false, 0, [], [], List.replicate 4 0, LR, BR, none, 0⟩ : RS) (fun s => [(10, .slice s.wa s.W.length s.wk), (11, .int .i64 (s.told : Nat)), (12, .int .i64 (s.i : Nat))]) (fun s => [row 79 dd [.pointer (some ⟨p_, 0, none⟩), .pointer (some ⟨rr, 0, none⟩), .pointer (some ⟨qq, 0, none⟩), .int .u32 256, .map (some mm), .int .u32 (s.m + 1 : Nat), .bool false], rgA rr p_ 0 s.X s.tk s.nx s.told false, memA p_ s.bs s.lt, poolV qq p_ 432 1041 s.wh, mapJ askV mm (.u16, s.K), row 39 nc [.int .u16 (s.told : Nat)], Pw.sl 39 (0 + 1) (.slice s.wa s.W.length s.wk) s.W.length (s.W.flatMap u16L)]) (fun s => s.i ≤ bl.length + 1 ∧ s.m = min s.i bl.length ∧ RowI bl s.m s.told s.X s.K s.tk s.nx s.wh s.lt s.bs ∧ s.W = s.K.map (·.1) ∧ s.W.length < 4 ∧ (s.i = bl.length + 1 → s.W = [])) (fun s => bl.length + 1 - s.i) ⟨Nat.zero_le _, rfl, RowI.start, rfl, by decide, fun _ => rfl⟩ ?_; rintro ⟨i, m, told, X, tk, nx, K, W, wh, lt, bs, wa, wk⟩ g ⟨hi, hm, I, hW, hw4, hlast⟩; dsimp only at hi hm I hW hw4 hlast; have htl := I.d.tl; have hct := I.ct; have hWK : W.length = K.length := (by rw [hW, List.length_map]); dsimp only; simp only [List.cons_append, List.nil_append, appR])
      | (refine T.atKQ8 (.tmp 75) ?_; refine T.cutC (.tmp 75) (fun s : RS => [(0, .slice a0 bl.length k0), (1, .slice a1 os.length k1), (6, .pointer (some ⟨p_, 0, none⟩)), (8, .pointer (some ⟨dd, 0, none⟩)), (9, .pointer (some ⟨nc, 0, none⟩)), (10, .slice s.wa s.W.length s.wk), (11, .int .i64 (s.told : Nat)), (12, .int .i64 (i : Nat))]) (fun s => row 79 dd [.pointer (some ⟨p_, 0, none⟩), .pointer (some ⟨rr, 0, none⟩), .pointer (some ⟨qq, 0, none⟩), .int .u32 256, .map (some mm), .int .u32 (s.m + 1 : Nat), .bool false] :: rgA rr p_ 0 s.X s.tk s.nx s.told false :: memA p_ s.bs s.lt :: poolV qq p_ 432 1041 s.wh :: mapJ askV mm (.u16, s.K) :: row 39 nc [.int .u16 (s.told : Nat)] :: Pw.sl 39 (0 + 1) (.slice s.wa s.W.length s.wk) s.W.length (s.W.flatMap u16L) :: row 32 cb [.int .i64 16, .int .i64 4, .int .u32 256] :: old h :: R) (fun s => s.m = min (i + 1) bl.length ∧ i ≤ bl.length ∧ RowI bl s.m s.told s.X s.K s.tk s.nx s.wh s.lt s.bs ∧ s.W = s.K.map (·.1) ∧ s.W.length ≤ 4) ?_ (fun s g hs => ?_); rotate_left; obtain ⟨i8, m1, told1, X1, tk1, nx1, K1, W1, wh1, lt1, bs1, wa1, wk1⟩ := s; obtain ⟨hm1, hi1, I1, hW1, hw1⟩ := hs; dsimp only at hm1 hi1 I1 hW1 hw1; clear hlast; dsimp only)
      | (refine T.atR 18 ?_; clear hg18; have hib : i < bl.length := (by assumption); obtain rfl : m = i := (by omega); rw [I.d.tl, I.av]; have hbi := hbl m)
      | (refine ⟨16, 4, 4596, ⟨layR, I.d, by decide, by omega, by omega, by decide, by omega⟩, fun a hd bs9 lt9 X9 tk9 nx9 wh9 hD => ?_⟩; have hQ := ask_read hD.1 hD.2; have hR := I.read hD.1 hD.2; have htl9 := hR.d.tl; have hq16 := hQ.hd; have haN := hQ.aN; have hle := hQ.le)
      | (refine T.atR 21 ?_; clear hg21)
      | (refine T.atR 22 ?_; clear hg22; rw [htl9, hQ.en])
      | (refine T.atR 23 ?_; clear hg23; rw [hQ.rd]; dsimp only)
      | (refine T.atR 24 ?_; clear hg24; rw [hle, hQ.nb]; dsimp only)
      | (refine TQ.atC ?_; rename_i a7; obtain ⟨k7, hk7⟩ : ∃ x, x = b := ⟨_, rfl⟩; subst hk7; rw [show W.length + 1 = (W ++ [hd]).length from by rw [List.length_append]; rfl]; refine TQ.cn (⟨m, m + 1, told, X9, tk9, nx9, K ++ [(hd, ⟨m + 1, gt bl m, a⟩)], W ++ [hd], wh9, lt9, bs9, a7, k7⟩ : RS) rfl (by repeat first | exact trivial | refine ⟨rfl, ?_⟩) ⟨by dsimp only; omega, by omega, hR, by dsimp only; rw [List.map_append, ← hW]; rfl, by dsimp only; rw [List.length_append]; show W.length + 1 ≤ 4; omega⟩ (Ent.imp (by repeat first | exact Imp.refl _ | (apply Imp.pull; focus ((repeat first | exact Del.head _ _ | apply Del.tail); done)) | apply Imp.drop)))
      | (refine TQ.atC ?_; refine TQ.cn (⟨i, m, told, X, tk, nx, K, W, wh, lt, bs, wa, wk⟩ : RS) rfl (by repeat first | exact trivial | refine ⟨rfl, ?_⟩) ⟨by dsimp only; omega, by omega, I, hW, by dsimp only; omega⟩ (Ent.imp (by repeat first | exact Imp.refl _ | (apply Imp.pull; focus ((repeat first | exact Del.head _ _ | apply Del.tail); done)) | apply Imp.drop)))
      | (refine T.atB 2 ?_; refine T.lpa 2 [(0, _), (1, _), (6, _), (8, _), (9, _), (12, _)] (⟨0, m1, told1, X1, tk1, nx1, K1, W1, wh1, lt1, bs1, wa1, wk1⟩ : RS) (fun s => [(10, .slice s.wa s.W.length s.wk), (11, .int .i64 (s.told : Nat))]) (fun s => [row 79 dd [.pointer (some ⟨p_, 0, none⟩), .pointer (some ⟨rr, 0, none⟩), .pointer (some ⟨qq, 0, none⟩), .int .u32 256, .map (some mm), .int .u32 (m1 + 1 : Nat), .bool false], rgA rr p_ 0 s.X s.tk s.nx s.told false, memA p_ s.bs s.lt, poolV qq p_ 432 1041 s.wh, mapJ askV mm (.u16, s.K), row 39 nc [.int .u16 (s.told : Nat)], Pw.sl 39 (0 + 1) (.slice s.wa s.W.length s.wk) s.W.length (s.W.flatMap u16L)]) (fun s => RowI bl m1 s.told s.X s.K s.tk s.nx s.wh s.lt s.bs ∧ s.W = s.K.map (·.1) ∧ s.W.length ≤ 4) (fun s => s.W.length) ⟨I1, hW1, hw1⟩ ?_; rintro ⟨i7, m7, told2, X2, tk2, nx2, K2, W2, wh2, lt2, bs2, wa2, wk2⟩ g ⟨I2, hW2, hw2⟩; dsimp only at I2 hW2 hw2; have htl2 := I2.d.tl; have hct2 := I2.ct; have hWK2 : W2.length = K2.length := (by rw [hW2, List.length_map]); have hoi := hos i; dsimp only; simp only [List.cons_append, List.nil_append, appR])
      | (refine T.atRT 27 ?_; refine T.cutRT 27 (fun b : Bool => [(0, .slice a0 bl.length k0), (1, .slice a1 os.length k1), (6, .pointer (some ⟨p_, 0, none⟩)), (8, .pointer (some ⟨dd, 0, none⟩)), (9, .pointer (some ⟨nc, 0, none⟩)), (10, .slice wa2 W2.length wk2), (11, .int .i64 (told2 : Nat)), (12, .int .i64 (i : Nat)), (164, .bool b)]) (fun _ => row 79 dd [.pointer (some ⟨p_, 0, none⟩), .pointer (some ⟨rr, 0, none⟩), .pointer (some ⟨qq, 0, none⟩), .int .u32 256, .map (some mm), .int .u32 (m1 + 1 : Nat), .bool false] :: rgA rr p_ 0 X2 tk2 nx2 told2 false :: memA p_ bs2 lt2 :: poolV qq p_ 432 1041 wh2 :: mapJ askV mm (.u16, K2) :: row 39 nc [.int .u16 (told2 : Nat)] :: Pw.sl 39 (0 + 1) (.slice wa2 W2.length wk2) W2.length (W2.flatMap u16L) :: row 32 cb [.int .i64 16, .int .i64 4, .int .u32 256] :: old h :: R) (fun b => b = true ↔ W2.length = 4 ∨ i = bl.length ∧ 0 < W2.length) ?_ (fun b g hb => ?_))
      | (refine TQ.atC ?_; first | (refine TQ.cn (true : Bool) rfl (by repeat first | exact trivial | refine ⟨rfl, ?_⟩) (by simp only [true_iff, Bool.false_eq_true, false_iff]; omega) (Ent.imp (by repeat first | exact Imp.refl _ | (apply Imp.pull; focus ((repeat first | exact Del.head _ _ | apply Del.tail); done)) | apply Imp.drop))) | (refine TQ.cn (false : Bool) rfl (by repeat first | exact trivial | refine ⟨rfl, ?_⟩) (by simp only [true_iff, Bool.false_eq_true, false_iff]; omega) (Ent.imp (by repeat first | exact Imp.refl _ | (apply Imp.pull; focus ((repeat first | exact Del.head _ _ | apply Del.tail); done)) | apply Imp.drop))) | (refine TQ.cn (decide (0 < W2.length) : Bool) rfl (by repeat first | exact trivial | refine ⟨rfl, ?_⟩) (by simp only [decide_eq_true_eq]; omega) (Ent.imp (by repeat first | exact Imp.refl _ | (apply Imp.pull; focus ((repeat first | exact Del.head _ _ | apply Del.tail); done)) | apply Imp.drop))))
      | (refine T.atR 28 ?_; clear hg28; have hb4 := hb.1 (by assumption); have hW0 : 0 < W2.length := (by omega); have ht60 : told2 ≤ 60 := (by omega); have hm60 : m1 ≤ 60 := (by omega); have hmb : m1 ≤ bl.length := (by omega); clear hb hb4 hm1 hm)
      | (refine T.atKQ8 (.tmp 168) ?_; refine T.cutC (.tmp 168) (fun q : Nat => [(0, .slice a0 bl.length k0), (1, .slice a1 os.length k1), (6, .pointer (some ⟨p_, 0, none⟩)), (8, .pointer (some ⟨dd, 0, none⟩)), (9, .pointer (some ⟨nc, 0, none⟩)), (10, .slice wa2 W2.length wk2), (11, .int .i64 (told2 : Nat)), (12, .int .i64 (i : Nat)), (23, .int .i64 (q : Nat))]) (fun _ => row 79 dd [.pointer (some ⟨p_, 0, none⟩), .pointer (some ⟨rr, 0, none⟩), .pointer (some ⟨qq, 0, none⟩), .int .u32 256, .map (some mm), .int .u32 (m1 + 1 : Nat), .bool false] :: rgA rr p_ 0 X2 tk2 nx2 told2 false :: memA p_ bs2 lt2 :: poolV qq p_ 432 1041 wh2 :: mapJ askV mm (.u16, K2) :: row 39 nc [.int .u16 (told2 : Nat)] :: Pw.sl 39 (0 + 1) (.slice wa2 W2.length wk2) W2.length (W2.flatMap u16L) :: row 32 cb [.int .i64 16, .int .i64 4, .int .u32 256] :: old h :: R) (fun q => q < W2.length) ?_ (fun q g hq => ?_))
      | (refine TQ.atC ?_; refine TQ.cn (_ : Nat) rfl (by repeat first | exact trivial | refine ⟨rfl, ?_⟩) (by first | exact hW0 | exact Nat.mod_lt _ hW0) (Ent.imp (by repeat first | exact Imp.refl _ | (apply Imp.pull; focus ((repeat first | exact Del.head _ _ | apply Del.tail); done)) | apply Imp.drop)))
      | (refine T.atR 31 ?_; clear hg31; obtain ⟨aa, hat, hmem, hdel, hq16, hid1, hid2, hbk⟩ := row_at I2 hW2 hq; refine T.slP2 (e := 39) ?_ (by repeat first | with_reducible exact Del.head _ _ | with_reducible apply Del.tail); intro hIW)
      | (refine ⟨432, 4, 4596, K2, wh2, aa, ⟨layR, I2.d, hmem, hat, blkE_len _, by decide, by omega, by omega, by decide⟩, ?_⟩)
      | (refine T.atR 33 ?_; clear hg33; rw [Nat.mod_eq_of_lt (show told2 + 1 < 65536 by omega)])
      | (refine ⟨4, 4596, aa, ⟨layR, I2.d, hmem, hat, rfl, by omega, by omega, blkE_len _, by decide⟩, fun X3 tk3 wh3 lt3 oa ok hD3 => ?_⟩; have I3 := I2.poll hat (blkE_len _) hD3; have hbj := hbl (aa.id - 1))
      | (refine T.atR 34 ?_; clear hg34; simp only [List.flatMap_cons, List.flatMap_nil, List.append_nil, obV, blkV, Option.getD_some, errO]; refine T.slP2 (e := 56) ?_ (by repeat first | with_reducible exact Del.head _ _ | with_reducible apply Del.tail); intro hIC)
      | (refine T.atR 38 ?_; clear hg38; refine T.ent (Ent.imp imp_w0) ?_; refine T.osl (n := W2.length) (by omega) ?_; rintro b5 j5 rest rfl rfl hrest hxs)
      | (refine TQ.atL ?_; rename_i a7; obtain ⟨k7, hk7⟩ : ∃ x, x = b := ⟨_, rfl⟩; subst hk7; rw [List.nil_append, er_list, er_len hq]; refine TQ.rd (⟨0, m1, told2 + 1, X3, tk3, nx2, Pw.delJ K2 (gt W2 q), W2.eraseIdx q, wh3, lt3, svB bs2 (blkE told2) 0 16 aa.at_ (gt W2 q) told2 0, a7, k7⟩ : RS) rfl (by repeat first | exact trivial | refine ⟨rfl, ?_⟩) ⟨I3, hdel, by dsimp only; rw [List.length_eraseIdx_of_lt hq]; omega⟩ (by dsimp only; rw [List.length_eraseIdx_of_lt hq]; omega) (Ent.imp (by repeat first | exact Imp.refl _ | (apply Imp.pull; focus ((repeat first | exact Del.head _ _ | apply Del.tail); done)) | apply Imp.drop)))
      | (refine TQ.atL ?_; have hbn : ¬ (W2.length = 4 ∨ i = bl.length ∧ 0 < W2.length) := (fun h => by have h5 := hb.2 h; rw [hc] at h5; cases h5); clear hb; refine TQ.rd (⟨i + 1, m1, told2, X2, tk2, nx2, K2, W2, wh2, lt2, bs2, wa2, wk2⟩ : RS) rfl (by repeat first | exact trivial | refine ⟨rfl, ?_⟩) ⟨by dsimp only; omega, hm1, I2, hW2, by dsimp only; omega, fun h => List.eq_nil_of_length_eq_zero (by dsimp only at h ⊢; omega)⟩ (by dsimp only; omega) (Ent.imp (by repeat first | exact Imp.refl _ | (apply Imp.pull; focus ((repeat first | exact Del.head _ _ | apply Del.tail); done)) | apply Imp.drop)))
      | (refine T.atR 40 ?_; clear hg40; have hK0 := hlast (by omega); subst hK0; have hto : told = bl.length := (by simp only [List.length_nil] at hWK; omega))
      | (refine finAt ?_; refine Fini.of ⟨rfl, rfl⟩ ?_; exact (by simp only [List.cons_append, List.nil_append]; repeat first | (apply Imp.pull; focus ((repeat first | with_reducible exact Del.head _ _ | with_reducible apply Del.tail); done)) | with_reducible exact Imp.refl _ | apply Imp.drop))
      | (refine atDS ?_; refine Pw.LkG.stkg ?_)
      | (rw [leB_len]; omega)
      | refine T.pk 31 [2, 9, 10] (.p 0 (.p 1 (.p 3 (.p 4 (.p 5 (.p 7 (.p 8 (.g 6 (.n 2 (.n 9 (.n 10 (.p 11 .fin)))))))))))) ?_
      | refine T.pk 34 [21] (.p 0 (.p 1 (.p 2 (.p 3 (.p 4 (.p 5 (.p 6 (.p 7 (.p 8 (.p 9 (.d 10 (.g 11 (.p 12 (.p 13 (.p 14 (.p 15 (.p 16 (.p 19 (.p 20 (.p 17 (.g 18 (.n 21 (.p 22 (.p 23 (.p 24 (.p 25 (.p 26 (.d 27 (.g 28 (.p 29 (.p 30 (.p 31 (.p 32 (.p 33 (.p 37 (.p 38 (.d 34 (.g 35 (.p 36 (.p 39 (.p 40 (.p 41 (.p 42 (.p 43 (.p 46 (.p 47 (.p 48 (.d 44 (.g 45 (.d 49 (.g 50 (.p 51 (.p 52 (.g 53 (.p 54 (.p 55 (.p 56 .fin))))))))))))))))))))))))))))))))))))))))))))))))))))))))) ?_
      | refine And.intro (fun hc => ?_) (fun hc => ?_)
      | refine And.intro ?_ ?_
      | intro b
      | ((first | refine atDS ?_ | refine atDSK ?_ | refine atDN ?_); refine stk ?_)
      | refine stp ?_
      | refine TQ.finC ?_
      | refine TQ.finC2 ?_
      | refine TQ.finC3 ?_
      | refine ⟨fun hc => ?_, fun hc => ?_⟩
      | refine Ei.f ?_
      | refine ⟨?_, ?_⟩
      | intro b
      | exact absurd rfl hc
      | exact absurd hc (by decide)
      | omega
      | (dsimp only; omega)
      | fail)

end Go.Proofs.Ytfgpnipnaaeafaa

