/- Lemmas for the proofs of this seat: no statement of the seat is claimed here. -/
import Derived.Test.YtcmafjngfcablaaKs
set_option linter.all false

namespace Go.Proofs.Ytcmafjngfcablaa
open Go Pw
set_option maxRecDepth 20000
set_option maxHeartbeats 4000000
set_option synthInstance.maxHeartbeats 400000
set_option synthInstance.maxSize 4000
set_option maxHeartbeats 8000000

abbrev u8V (n : Nat) : List Value := [.int .u8 n]
instance : FLen u8V 1 := ⟨fun _ => rfl⟩
instance : FLen u8V (0 + 1) := ⟨fun _ => rfl⟩
abbrev u16L (n : Nat) : List Value := [.int .u16 n]
instance : FLen u16L 1 := ⟨fun _ => rfl⟩
instance : FLen u16L (0 + 1) := ⟨fun _ => rfl⟩
instance {n : Nat} : InvL u16L [.int .u16 ((n : Nat) : Int)] n := ⟨rfl⟩
instance {l : List Nat} {i : Nat} : ElV (l.flatMap u16L) i (.int .u16 (gt l i : Nat)) (i < l.length) := ⟨fun h => by
  have := flat_elem (f := u16L) (k := 1) (fun _ => rfl) (gt_get h) 0 _ rfl
  rw [Nat.mul_one] at this
  exact this⟩
theorem imp_w0 {L : List Assn} : Imp L (Pw.sl 32 (0 + 1) (.slice none ([] : List Nat).length 0) ([] : List Nat).length (([] : List Nat).flatMap u16L) :: L) := Imp.slN (Imp.refl L)
theorem new4 {n : Nat} (h : n = 1 ∨ n = 2 ∨ n = 4 ∨ n = 8) : NewOk 600 0 n := by
  rcases h with rfl | rfl | rfl | rfl
  · exact ⟨by decide +kernel, by decide +kernel, by decide⟩
  · exact ⟨by decide +kernel, by decide +kernel, by decide⟩
  · exact ⟨by decide +kernel, by decide +kernel, by decide⟩
  · exact ⟨by decide +kernel, by decide +kernel, by decide⟩
theorem pow4 (p : Nat) : ∃ n, n = 1 * 2 ^ (p % 4) ∧ (n = 1 ∨ n = 2 ∨ n = 4 ∨ n = 8) := by
  refine ⟨_, rfl, ?_⟩
  have : p % 4 < 4 := Nat.mod_lt _ (by decide)
  generalize p % 4 = q at *
  match q, this with
  | 0, _ => exact .inl rfl
  | 1, _ => exact .inr (.inl rfl)
  | 2, _ => exact .inr (.inr (.inl rfl))
  | 3, _ => exact .inr (.inr (.inr rfl))
theorem ri0 {n : Nat} (h : NewOk 600 0 n) : RI 600 n [] (List.replicate n false) 0 0 (writeE (List.replicate 600 0) (List.replicate 600 false) 0 (List.replicate (sizeE (n : Nat)) 0) false 11).2 := by
  have hl : (writeE (List.replicate 600 0) (List.replicate 600 false) 0 (List.replicate (sizeE (n : Nat)) 0) false 11).2.length = 600 := by rw [writeE_len, List.length_replicate]
  exact ⟨rg0 h.n1 h.new.2.2.2.1 (by decide) (by rw [hl]; decide), hl, List.length_replicate, fun y hy => absurd hy List.not_mem_nil⟩
theorem LT_eq {n : Nat} : (turnE (List.replicate 600 false) (0 + partN n) (sizeE (n : Nat) - partN n) true 11).2 = LT 600 0 n := rfl
theorem er_all {W : List Nat} {q : Nat} (h : q < W.length) : 0 + q + (W.length - (q + 1)) = (W.eraseIdx q).length := er_len h
theorem lone_ok {A : Nat} (h : A < 4294967296) : ∀ b ∈ ([⟨A, 4, false⟩] : List Bf), b.ok := fun b hb => by rw [List.mem_singleton] at hb; subst hb; exact ⟨h, show 4 < 4294967296 by decide⟩
theorem wkey {N n nx ls q : Nat} {X : XC} {tk : List Bool} {bs : List UInt8} {W : List Nat} (I : RI N n X tk nx ls bs) (hW : W = X.map (·.1)) (hq : q < W.length) : gt W q < 65536 := by
  subst hW
  obtain ⟨y, hy, e1⟩ := List.mem_map.1 (gt_mem hq)
  obtain ⟨h1, h2⟩ := I.ok.hd y hy
  have := (I.ok.ch y hy).d _ (gt_mem h1)
  have := I.ok.n1
  rw [← e1, ← h2]; omega
attribute [local irreducible] writeE turnE sizeE partN b1E b2E LT
theorem round_law (h : Array Obj) (power rounds : Nat) (os : List Nat) (ao : Option Addr) (ko : Nat) [hI : InpD h ao (0 + 1) os.length ko (os.flatMap u8V)] (hp : power < 256) (hr : rounds < 256) (hos : ∀ j, gt os j < 256) (hol : os.length < 4611686018427387904) :
    Sat Try.prog 3 [.int .u8 (power : Nat), .int .u8 (rounds : Nat), .slice ao os.length ko] [old h] (fun u L' => u = .bool true ∧ L' = [old h]) := by
  have hp8 : 1 * 2 ^ (power % 4) < 9223372036854775808 := by
    obtain ⟨n, e, h⟩ := pow4 power
    rw [← e]; omega
  have hg4 : True := trivial
  have hg5 : True := trivial
  have hg8 : True := trivial
  have hg20 : True := trivial
  have hg25 : True := trivial
  have hg26 : True := trivial
  have hg28 : True := trivial
  have hg31 : True := trivial
  have hg32 : True := trivial
  have hg34 : True := trivial
  have hg37 : True := trivial
  all_goals
    refine Sat.enter Try.func3 rfl Try.ntmps3 rfl (fun c R => ?_)
    try simp only [List.cons_append, List.nil_append]
    repeat' (first
      | exact hp8
      | (refine T.atR 4 ?_; clear hg4; obtain ⟨n, hn, hcs⟩ := pow4 power; rw [← hn]; clear hn; have hnw := new4 hcs; have hn1 := hnw.n1; have hn8 : n ≤ 8 := (by omega); have hnl := hnw.len)
      | (refine T.atR 5 ?_; clear hg5; obtain ⟨p_, hp_⟩ : ∃ x, x = b := ⟨_, rfl⟩; subst hp_)
      | (refine Pw.Vc.mk hnw.new ?_)
      | (refine T.atR 8 ?_; clear hg8; obtain ⟨r_, hr_⟩ : ∃ x, x = b := ⟨_, rfl⟩; subst hr_; rw [LT_eq])
      | (refine T.atB 0 ?_; refine T.ent (Ent.imp imp_w0) ?_; refine T.lpa 0 [(1, _), (2, _), (7, _), (8, _), (10, _)] ((0, [], List.replicate n false, 0, 0, (writeE (List.replicate 600 0) (List.replicate 600 false) 0 (List.replicate (sizeE (n : Nat)) 0) false 11).2, [], none, 0) : Nat × XC × List Bool × Nat × Nat × List UInt8 × List Nat × Option Addr × Nat) (fun z => [(11, .int .u16 (z.2.2.2.2.1 : Nat)), (12, .slice z.2.2.2.2.2.2.2.1 (z.2.2.2.2.2.2.1).length z.2.2.2.2.2.2.2.2), (13, .int .i64 (z.1 : Nat))]) (fun z => [rgA r_ p_ 0 z.2.1 z.2.2.1 z.2.2.2.1 z.2.2.2.2.1 false, memA p_ z.2.2.2.2.2.1 (LT 600 0 n), Pw.sl 32 (0 + 1) (.slice z.2.2.2.2.2.2.2.1 (z.2.2.2.2.2.2.1).length z.2.2.2.2.2.2.2.2) (z.2.2.2.2.2.2.1).length ((z.2.2.2.2.2.2.1).flatMap u16L)]) (fun z => z.1 ≤ 200 + 4 * rounds ∧ z.2.2.2.2.2.2.1 = z.2.1.map (·.1) ∧ RI 600 n z.2.1 z.2.2.1 z.2.2.2.1 z.2.2.2.2.1 z.2.2.2.2.2.1) (fun z => 200 + 4 * rounds - z.1) ⟨Nat.zero_le _, rfl, ri0 hnw⟩ ?_; rintro ⟨i, X, tk, nx, ls, bs, W, a9, k9⟩ g ⟨hi, hWX, I⟩; dsimp only at hi hWX I; have hcn := I.cnt; have hok := I.ok; have hls := I.ok.ls; have htl := I.tl; have hpt : partN tk.length = partN n := (by rw [htl]); have ht256 := I.ok.n1; have hwl : W.length = X.length := (by rw [hWX, List.length_map]); have hog := hos (i % os.length); simp only [List.cons_append, List.nil_append, appR])
      | (refine T.atK (.tmp 64) ?_; refine T.cutC (.tmp 64) (fun pick : Nat => [(11, .int .u16 (ls : Nat)), (12, .slice a9 (W).length k9), (13, .int .i64 (i : Nat)), (14, .int .u8 (pick : Nat)), (1, .int .u8 (rounds : Nat)), (2, .slice ao os.length ko), (7, .int .i64 (n : Nat)), (8, .pointer (some ⟨p_, 0, none⟩)), (10, .pointer (some ⟨r_, 0, none⟩))]) (fun _ => rgA r_ p_ 0 X tk nx ls false :: memA p_ bs (LT 600 0 n) :: Pw.sl 32 (0 + 1) (.slice a9 (W).length k9) (W).length ((W).flatMap u16L) :: old h :: R) (fun pick => pick < 256) ?_ (fun pick g hpk => ?_))
      | (refine TQ.atC ?_; refine TQ.cn (_ : Nat) rfl ⟨rfl, rfl, rfl, rfl, rfl, rfl, rfl, rfl, rfl, trivial⟩ (by first | assumption | exact hog | omega | exact Nat.mod_lt _ (by decide)) (Ent.imp (by repeat first | exact Imp.refl _ | (apply Imp.pull; focus ((repeat first | exact Del.head _ _ | apply Del.tail); done)) | apply Imp.drop)))
      | (refine T.atK (.tmp 79) ?_; refine T.cutC (.tmp 79) (fun _ : Unit => [(11, .int .u16 (ls : Nat)), (12, .slice a9 (W).length k9), (13, .int .i64 (i : Nat)), (14, .int .u8 (pick : Nat)), (1, .int .u8 (rounds : Nat)), (2, .slice ao os.length ko), (7, .int .i64 (n : Nat)), (8, .pointer (some ⟨p_, 0, none⟩)), (10, .pointer (some ⟨r_, 0, none⟩))]) (fun _ => rgA r_ p_ 0 X tk nx ls false :: memA p_ bs (LT 600 0 n) :: Pw.sl 32 (0 + 1) (.slice a9 (W).length k9) (W).length ((W).flatMap u16L) :: old h :: R) (fun _ => 0 < W.length) ?_ (fun _ g hw0 => ?_))
      | (refine TQ.atC ?_; refine TQ.cn (() : Unit) rfl ⟨rfl, rfl, rfl, rfl, rfl, rfl, rfl, rfl, rfl, trivial⟩ (by omega) (Ent.imp (by repeat first | exact Imp.refl _ | (apply Imp.pull; focus ((repeat first | exact Del.head _ _ | apply Del.tail); done)) | apply Imp.drop)))
      | (refine T.atR 20 ?_; clear hg20; rcases round_add I (show 400 + 8 * W.length + 4 ≤ 600 by omega) (by omega) b with ⟨rfl, hfull, rfl, rfl, rfl, rfl, rfl⟩ | ⟨rfl, hlt, rfl, I2, hmap, hh⟩)
      | (refine TQ.atL ?_; rename_i a7; have hw2 := hWX; rw [show W.length + 1 = (W ++ [_]).length from by rw [List.length_append]; rfl]; refine TQ.rd ((i + 1, _, _, _, ls, _, _, a7, b) : Nat × XC × List Bool × Nat × Nat × List UInt8 × List Nat × Option Addr × Nat) rfl ⟨rfl, rfl, rfl, rfl, rfl, rfl, rfl, rfl, trivial⟩ ⟨by dsimp only; omega, by first | (rw [hWX]; exact hmap.symm) | fail, I2⟩ (by dsimp only; omega) (Ent.imp (by repeat first | exact Imp.refl _ | (apply Imp.pull; focus ((repeat first | exact Del.head _ _ | apply Del.tail); done)) | apply Imp.drop)))
      | (refine T.atR 25 ?_; clear hg25; obtain ⟨q, hq⟩ : ∃ q, q = pick % W.length := ⟨_, rfl⟩; have hqw : q < W.length := (by rw [hq]; exact Nat.mod_lt _ hw0); rw [← hq]; clear hq)
      | (refine T.atR 26 ?_; clear hg26; obtain ⟨hh, hhd⟩ : ∃ x, x = gt W q := ⟨_, rfl⟩; rw [← hhd]; rw [hWX] at hhd; have hd1 := rd1 (h := hh) hnw I; have hd1a := congrArg Prod.fst hd1; have hd1b := congrArg Prod.snd hd1; dsimp only at hd1a hd1b; have hd2 := rd2 (h := hh) hnw I; have hd2a := congrArg Prod.fst hd2; have hd2b := congrArg Prod.snd hd2; dsimp only at hd2a hd2b; have hsl := slot_lt (ls := ls) hnw; have hh16 : hh < 65536 := (by rw [hhd, ← hWX]; exact wkey I hWX hqw); have hle1 : (leB hh 4).length + (leB 0 4).length = 8 := (by rw [leB_len, leB_len]); have hle2 := ent_len hh; have hle3 : (leB ((ls + 1) % 65536) 2).length = 2 := leB_len _ _; have hbl := I.bl; have hb1 := b1_len (h := hh) hnw I; have hok3 : RgOk 0 (b2E n ls hh bs).length X tk nx ls := (by rw [b2_len hnw I, ← I.bl]; exact I.ok))
      | (refine T.atR 28 ?_; clear hg28; rw [hd1b])
      | (refine T.atR 31 ?_; clear hg31; rw [hd2b])
      | (refine T.atR 32 ?_; clear hg32; obtain ⟨rfl, rfl, rfl, rfl, hmap, I2, rfl, rfl, rfl⟩ := round_poll hnw I (by omega) hhd (by assumption); have hc2 := I2.cnt; have htl2 := I2.tl; have hx2 := congrArg List.length hmap; rw [List.length_map, ← hWX, ← er_all hqw] at hx2)
      | (refine T.atR 34 ?_; clear hg34; refine T.ent (Ent.imp imp_w0) ?_; refine T.osl (by omega) ?_; rintro b5 j5 rest rfl rfl hrest hxs)
      | (refine T.atR 37 ?_; clear hg37; rename_i a7; obtain ⟨k7, hk7⟩ : ∃ x, x = b := ⟨_, rfl⟩; subst hk7)
      | (refine TQ.atL ?_; rw [List.nil_append, er_list, er_all hqw]; refine TQ.rd ((i + 1, _, _, nx, _, _, W.eraseIdx q, a7, k7) : Nat × XC × List Bool × Nat × Nat × List UInt8 × List Nat × Option Addr × Nat) rfl ⟨rfl, rfl, rfl, rfl, rfl, rfl, rfl, rfl, trivial⟩ ⟨by dsimp only; omega, by first | (rw [hWX]; exact hmap.symm) | fail, I2⟩ (by dsimp only; omega) (Ent.imp (by repeat first | exact Imp.refl _ | (apply Imp.pull; focus ((repeat first | exact Del.head _ _ | apply Del.tail); done)) | apply Imp.drop)))
      | (exact Fini.of ⟨rfl, rfl⟩ (by repeat first | exact Imp.refl _ | (apply Imp.pull; focus ((repeat first | exact Del.head _ _ | apply Del.tail); done)) | apply Imp.drop))
      | exact hok
      | exact hok3
      | exact hh16
      | exact lone_ok (by omega)
      | exact Nat.mod_lt _ (by omega)
      | exact Eq.refl 1
      | exact (by decide : 1 < 9223372036854775808)
      | refine T.pl 26 [2, 13, 14, 16] (.p 0 (.p 1 (.p 4 (.p 5 (.p 6 (.p 7 (.p 8 (.p 9 (.p 11 (.p 12 (.n 2 (.p 3 (.p 10 (.n 13 (.n 14 (.p 15 (.n 16 (.p 17 .fin)))))))))))))))))) ?_
      | refine And.intro (fun hc => ?_) (fun hc => ?_)
      | refine And.intro ?_ ?_
      | intro b
      | refine stp ?_
      | refine TQ.finC ?_
      | refine TQ.finC2 ?_
      | refine TQ.finC3 ?_
      | refine ⟨fun hc => ?_, fun hc => ?_⟩
      | refine Ei.f ?_
      | refine ⟨?_, ?_⟩
      | intro b
      | exact absurd rfl hc
      | exact absurd hc (by decide)
      | omega
      | (dsimp only; omega)
      | fail)

end Go.Proofs.Ytcmafjngfcablaa

