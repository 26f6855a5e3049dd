/- Lemmas for the proofs of this seat: no statement of the seat is claimed here. -/
import Derived.Test.YtimaecgdahmmdaaKw
set_option linter.all false

namespace Go.Proofs.Ytimaecgdahmmdaa
open Go Pw
set_option maxRecDepth 20000
set_option maxHeartbeats 4000000
set_option synthInstance.maxHeartbeats 400000
set_option synthInstance.maxSize 4000
set_option maxHeartbeats 8000000

/-! The sending ring. -/
structure TxI (A n N : Nat) (X : XC) (tk : List Bool) (nx ls : Nat) : Prop where
  ok : RgOk A N X tk nx ls
  tl : tk.length = n
  o : ∀ y ∈ X, ∃ a z, y.2.l = [⟨a, z, false⟩]
/-- The driver polls, and puts what came back into the pool. -/
inductive TxT (bs : List UInt8) (lt : List Bool) (A P bz : Nat) (br : Bool) (X0 : XC) (tk0 : List Bool) (ls0 : Nat) (wh0 : List UInt8) : XC → List Bool → Nat → List UInt8 → Prop
  | refl : TxT bs lt A P bz br X0 tk0 ls0 wh0 X0 tk0 ls0 wh0
  | step {X : XC} {tk : List Bool} {ls : Nat} {wh : List UInt8} {hd sz e : Nat} {X' : XC} {tk' : List Bool} {ls' : Nat} {br' : Bool} {lt' : List Bool} {e2 : Nat} {wh' : List UInt8} : TxT bs lt A P bz br X0 tk0 ls0 wh0 X tk ls wh → PollP bs lt A X tk ls br hd sz true e X' tk' ls' br' lt' → PutP P bz wh ((atJ (MX X) hd).getD 0) e2 wh' → TxT bs lt A P bz br X0 tk0 ls0 wh0 X' tk' ls' wh'
structure TxP (A n N : Nat) (lt : List Bool) (X : XC) (nx : Nat) (br : Bool) (hd : Nat) (X' : XC) (tk' : List Bool) (ls' : Nat) (br' : Bool) (lt' : List Bool) : Prop where
  b0 : br = false
  b1 : br' = false
  t1 : lt' = lt
  tx : TxI A n N X' tk' nx ls'
  xl : X'.length + 1 = X.length
  at_ : (atJ (MX X) hd).getD 0 < 4294967296
theorem tx_poll {A n N : Nat} {lt : List Bool} {bs : List UInt8} {X : XC} {tk : List Bool} {nx ls : Nat} {br : Bool} {hd sz e : Nat} {X' : XC} {tk' : List Bool} {ls' : Nat} {br' : Bool} {lt' : List Bool} (i : TxI A n N X tk nx ls) (h : PollP bs lt A X tk ls br hd sz true e X' tk' ls' br' lt') : TxP A n N lt X nx br hd X' tk' ls' br' lt' := by
  have hok := poll_ok h i.ok
  have htl := poll_len h
  cases h with
  | done c h1 h2 h3 hat hrm =>
    have hm := atJ_mem hat
    obtain ⟨a, z, hc⟩ := i.o _ hm
    dsimp only at hc
    have ho : ∀ b ∈ c.l, b.inn = false := fun b hb => by rw [hc, List.mem_singleton] at hb; subst hb; rfl
    refine ⟨h1, rfl, bkE_out lt c.l ho _ (Nat.le_refl _), ⟨hok, htl.trans i.tl, fun y hy => i.o y (delJ_sub hat hy)⟩, delJ_len hat, ?_⟩
    rw [MX_at, hat]
    have h5 := (i.ok.ch _ hm).l
    dsimp only at h5
    rw [hc] at h5
    show (gt c.l 0).at_ < _
    rw [hc]
    exact (h5 _ List.mem_cons_self).at_
theorem tx_add {A n nx ls hd e nx' N a z : Nat} {bs bs' : List UInt8} {lt lt' tk tk' : List Bool} {X X' : XC} {br : Bool} (h : AddP A bs lt [⟨a, z, false⟩] X tk nx br hd e bs' lt' X' tk' nx') (hb : bs.length = N) (ha : a < 4294967296) (hz : z < 4294967296) (i : TxI A n N X tk nx ls) : lt' = lt ∧ bs'.length = N ∧ TxI A n N X' tk' nx' ls ∧ X'.length ≤ X.length + 1 ∧ KeepP lt bs bs' ∧ (∀ k, (k < A ∨ A + partN n ≤ k) → bs'[k]? = bs[k]?) := by
  have hbok : ∀ b ∈ [(⟨a, z, false⟩ : Bf)], b.ok := fun b hb => by rw [List.mem_singleton] at hb; subst hb; exact ⟨ha, hz⟩
  have hbo : ∀ b ∈ [(⟨a, z, false⟩ : Bf)], b.inn = false := fun b hb => by rw [List.mem_singleton] at hb; subst hb; rfl
  have hok := add_ok hbok h (by rw [hb]; exact i.ok)
  have hlen := add_len h
  rw [hlen.2, hb] at hok
  have h0 : 0 < tk.length := i.ok.n0
  have htl := i.tl
  cases h with
  | dead => exact ⟨rfl, hb, i, by omega, .rfl, fun _ _ => rfl⟩
  | no => exact ⟨rfl, hb, i, by omega, .rfl, fun _ _ => rfl⟩
  | lent _ _ _ _ h2 h3 => exact absurd (h2.out hbo).1 h3
  | done _ _ da dk ba bk _ _ h2 h3 h4 =>
    have e2 := (h2.out hbo).2
    subst e2
    refine ⟨rfl, hlen.2.trans hb, ⟨hok, hlen.1.trans i.tl, fun y hy => ?_⟩, by rw [List.length_append]; simp, h3, ?_⟩
    · rcases List.mem_append.1 hy with hy | hy
      · exact i.o y hy
      · rw [List.mem_singleton] at hy; subst hy; exact ⟨a, z, rfl⟩
    · rw [← htl]
      exact h4.out h0
/-- What Send answers, and leaves. -/
inductive SendP (A P bz : Nat) (lt : List Bool) (f bs : List UInt8) (X : XC) (tk : List Bool) (nx ls : Nat) (br : Bool) (wh : List UInt8) (lo : Nat) : Nat → List UInt8 → XC → List Bool → Nat → Nat → Bool → List UInt8 → Nat → Prop
  | short : f.length < 14 → SendP A P bz lt f bs X tk nx ls br wh lo 2 bs X tk nx ls br wh lo
  | long : 14 ≤ f.length → min 1514 (bz - 12) < f.length → SendP A P bz lt f bs X tk nx ls br wh lo 4 bs X tk nx ls br wh lo
  | poll {X1 : XC} {tk1 : List Bool} {ls1 : Nat} {wh1 : List UInt8} {hd sz e : Nat} {X2 : XC} {tk2 : List Bool} {ls2 : Nat} {br2 : Bool} {lt2 : List Bool} : TxT bs lt A P bz br X tk ls wh X1 tk1 ls1 wh1 → PollP bs lt A X1 tk1 ls1 br hd sz false e X2 tk2 ls2 br2 lt2 → e ≠ 0 → SendP A P bz lt f bs X tk nx ls br wh lo e bs X2 tk2 nx ls2 br2 wh1 lo
  | full {X1 : XC} {tk1 : List Bool} {ls1 : Nat} {wh1 : List UInt8} {hd sz : Nat} {X2 : XC} {tk2 : List Bool} {ls2 : Nat} {br2 : Bool} {lt2 : List Bool} {a e : Nat} {wh2 : List UInt8} : TxT bs lt A P bz br X tk ls wh X1 tk1 ls1 wh1 → PollP bs lt A X1 tk1 ls1 br hd sz false 0 X2 tk2 ls2 br2 lt2 → GetP P bz wh1 a e wh2 → e ≠ 0 → SendP A P bz lt f bs X tk nx ls br wh lo e bs X2 tk2 nx ls2 br2 wh2 (lo + 1)
  | bad {X1 : XC} {tk1 : List Bool} {ls1 : Nat} {wh1 : List UInt8} {hd sz : Nat} {X2 : XC} {tk2 : List Bool} {ls2 : Nat} {br2 : Bool} {lt2 : List Bool} {a e : Nat} {wh2 : List UInt8} {hd3 : Nat} {bs3 : List UInt8} {lt3 : List Bool} {X3 : XC} {tk3 : List Bool} {nx3 e4 : Nat} {wh4 : List UInt8} : TxT bs lt A P bz br X tk ls wh X1 tk1 ls1 wh1 → PollP bs lt A X1 tk1 ls1 br hd sz false 0 X2 tk2 ls2 br2 lt2 → GetP P bz wh1 a 0 wh2 → AddP A (writeE bs lt a (List.replicate 12 0 ++ f) false 11).2 lt [⟨a, 12 + f.length, false⟩] X2 tk2 nx br2 hd3 e bs3 lt3 X3 tk3 nx3 → e ≠ 0 → PutP P bz wh2 a e4 wh4 → SendP A P bz lt f bs X tk nx ls br wh lo e bs3 X3 tk3 nx3 ls2 br2 wh4 (lo + 1)
  | ok {X1 : XC} {tk1 : List Bool} {ls1 : Nat} {wh1 : List UInt8} {hd sz : Nat} {X2 : XC} {tk2 : List Bool} {ls2 : Nat} {br2 : Bool} {lt2 : List Bool} {a : Nat} {wh2 : List UInt8} {hd3 : Nat} {bs3 : List UInt8} {lt3 : List Bool} {X3 : XC} {tk3 : List Bool} {nx3 : Nat} : 14 ≤ f.length → f.length ≤ min 1514 (bz - 12) → TxT bs lt A P bz br X tk ls wh X1 tk1 ls1 wh1 → PollP bs lt A X1 tk1 ls1 br hd sz false 0 X2 tk2 ls2 br2 lt2 → GetP P bz wh1 a 0 wh2 → AddP A (writeE bs lt a (List.replicate 12 0 ++ f) false 11).2 lt [⟨a, 12 + f.length, false⟩] X2 tk2 nx br2 hd3 0 bs3 lt3 X3 tk3 nx3 → SendP A P bz lt f bs X tk nx ls br wh lo 0 bs3 X3 tk3 nx3 ls2 br2 wh2 lo
structure TxS where
  (X : XC) (tk : List Bool) (ls : Nat) (wh : List UInt8)
theorem poll_same {bs : List UInt8} {lt : List Bool} {at_ : Nat} {X : XC} {tk : List Bool} {ls : Nat} {br : Bool} {hd sz e : Nat} {X' : XC} {tk' : List Bool} {ls' : Nat} {br' : Bool} {lt' : List Bool} (h : PollP bs lt at_ X tk ls br hd sz false e X' tk' ls' br' lt') : X = X' ∧ tk = tk' ∧ ls = ls' ∧ lt = lt' := by cases h <;> exact ⟨rfl, rfl, rfl, rfl⟩
theorem get_ad {P sz a e : Nat} {wh wh' : List UInt8} (h : GetP P sz wh a e wh') (hb : P + wh.length * sz ≤ 1048576) : a ≤ 1048576 := by
  cases h with
  | full => omega
  | got i hi => exact Nat.le_trans (Nat.add_le_add_left (Nat.mul_le_mul_right sz (Nat.le_of_lt hi)) P) hb
theorem get_le {P sz a e : Nat} {wh wh' : List UInt8} (h : GetP P sz wh a e wh') : e ≤ 20 ∧ wh'.length = wh.length := by cases h <;> simp
attribute [local irreducible] writeE
theorem send_spec (n p r1 q1 m1 r2 q2 m2 A nn P bz N nx ls l2 : Nat) (l1 : Int) (br : Bool) (X : XC) (tk : List Bool) (bs f wh : List UInt8) (lt : List Bool) (i : TxI A nn N X tk nx ls) (hb : bs.length = N) (hw : wh.length ≤ 256) (hz0 : 64 ≤ bz) (hz1 : bz ≤ 2048) (hP : P ≤ 1048576) (hPw : P + wh.length * bz ≤ 1048576) (hl : l2 ≤ 1125899906842624) (hf : f.length < 1099511627776) :
    Sat Try.prog 16 [.pointer (some ⟨n, 0, none⟩), str f] [row 81 n [.pointer (some ⟨p, 0, none⟩), .int .i64 (bz : Nat), .pointer (some ⟨r1, 0, none⟩), .pointer (some ⟨q1, 0, none⟩), .map (some m1), .int .i64 (l1), .pointer (some ⟨r2, 0, none⟩), .pointer (some ⟨q2, 0, none⟩), .map (some m2), .int .i64 ((l2 : Nat))], rgA r2 p A X tk nx ls br, memA p bs lt, mapJ u32W m2 (.u16, MX X), poolV q2 p P bz wh] (fun u L' => ∃ e bs' X' tk' nx' ls' br' wh' lo', SendP A P bz lt f bs X tk nx ls br wh l2 e bs' X' tk' nx' ls' br' wh' lo' ∧ u = .int .i64 (e : Nat) ∧ L' = [row 81 n [.pointer (some ⟨p, 0, none⟩), .int .i64 (bz : Nat), .pointer (some ⟨r1, 0, none⟩), .pointer (some ⟨q1, 0, none⟩), .map (some m1), .int .i64 (l1), .pointer (some ⟨r2, 0, none⟩), .pointer (some ⟨q2, 0, none⟩), .map (some m2), .int .i64 ((lo' : Nat))], rgA r2 p A X' tk' nx' ls' br', memA p bs' lt, mapJ u32W m2 (.u16, MX X'), poolV q2 p P bz wh']) := by
  have hgr : True := trivial
  have hg10 : True := trivial
  have hg11 : True := trivial
  have hg13 : True := trivial
  have hg14 : True := trivial
  have hg17 : True := trivial
  have hg18 : True := trivial
  have hg19 : True := trivial
  have hg21 : True := trivial
  have hg23 : True := trivial
  all_goals
    refine Sat.enter Try.func16 rfl Try.ntmps16 rfl (fun c R => ?_)
    try simp only [List.cons_append, List.nil_append]
    repeat' (first
      | (refine T.atR 13 ?_; clear hg13; obtain rfl : e = 0 := (by omega))
      | (refine T.atR 14 ?_; clear hg14; rename_i a9 ge wh2; have hget := b; obtain ⟨hge20, hwh2⟩ := get_le hget; have ha9 := get_ad hget hPw9)
      | (refine T.atR 17 ?_; clear hg17; obtain rfl : ge = 0 := (by omega))
      | (refine T.atR 18 ?_; clear hg18; have hwl9 : (writeE bs lt a9 (List.replicate 12 0 ++ f) false 11).2.length = N := (by rw [writeE_len]; exact hb); have hok18 : RgOk A (writeE bs lt a9 (List.replicate 12 0 ++ f) false 11).2.length s.X s.tk nx s.ls := (by rw [hwl9]; exact hi1.ok))
      | (refine T.atR 19 ?_; clear hg19; rename_i hd3 e3 bs3 lt3 X3 tk3 nx3; have hadd := b; have hle3 := (add_M hadd hi1.ok).le; have htx := (tx_add hadd hwl9 (by omega) (by omega) hi1).1.symm; subst htx)
      | (refine T.atR 21 ?_; clear hg21; rename_i e5 wh5; have hput := b)
      | (refine T.atR 23 ?_; clear hg23; obtain rfl : e3 = 0 := (by omega))
      | (refine finAt ?_; exact Fini.of ⟨_, _, _, _, _, _, _, _, _, .ok (by omega) (by omega) hi2 hp hget hadd, rfl, rfl⟩ (by repeat first | exact Imp.refl _ | (apply Imp.pull; focus ((repeat first | exact Del.head _ _ | apply Del.tail); done)) | apply Imp.drop))
      | (refine finAt ?_; exact Fini.of ⟨_, _, _, _, _, _, _, _, _, .bad hi2 hp hget hadd (by omega) hput, rfl, rfl⟩ (by repeat first | exact Imp.refl _ | (apply Imp.pull; focus ((repeat first | exact Del.head _ _ | apply Del.tail); done)) | apply Imp.drop))
      | (refine finAt ?_; have hgt9 := hget; exact Fini.of ⟨_, _, _, _, _, _, _, _, _, .full hi2 hp hget (by omega), rfl, rfl⟩ (by repeat first | exact Imp.refl _ | (apply Imp.pull; focus ((repeat first | exact Del.head _ _ | apply Del.tail); done)) | apply Imp.drop))
      | (refine finAt ?_; exact Fini.of ⟨_, _, _, _, _, _, _, _, _, .poll hi2 hp (by omega), rfl, rfl⟩ (by repeat first | exact Imp.refl _ | (apply Imp.pull; focus ((repeat first | exact Del.head _ _ | apply Del.tail); done)) | apply Imp.drop))
      | (refine Vc.mk ⟨rfl, hok18, by omega, by omega⟩ ?_)
      | exact hPw9
      | exact (by rw [List.length_append, List.length_replicate]; omega)
      | (rw [List.length_replicate]; omega)
      | (refine T.atG ?_; clear hgr; rename_i c1 hl14 c2 c3; have hl15 := hc; obtain ⟨c4, hc4⟩ : ∃ x, x = b := ⟨_, rfl⟩; subst hc4; refine T.ent (Ent.imp (show Imp _ ((row 82 c3 [.pointer (some ⟨n, 6, none⟩)] :: row 95 c4 [.pointer (some ⟨c2, 0, none⟩)] :: [row 28 c2 [.int .i64 ((0 : Nat) : Int)], row 81 n [.pointer (some ⟨p, 0, none⟩), .int .i64 (bz : Nat), .pointer (some ⟨r1, 0, none⟩), .pointer (some ⟨q1, 0, none⟩), .map (some m1), .int .i64 (l1), .pointer (some ⟨r2, 0, none⟩), .pointer (some ⟨q2, 0, none⟩), .map (some m2), .int .i64 ((l2 : Nat))], rgA r2 p A (⟨X, tk, ls, wh⟩ : TxS).X (⟨X, tk, ls, wh⟩ : TxS).tk nx (⟨X, tk, ls, wh⟩ : TxS).ls br, memA p bs lt, mapJ u32W m2 (.u16, MX (⟨X, tk, ls, wh⟩ : TxS).X), stA [row 32 c1 [.pointer (some ⟨n, 0, none⟩)], poolV q2 p P bz (⟨X, tk, ls, wh⟩ : TxS).wh]]) ++ R) from (by repeat first | exact Imp.refl _ | (apply Imp.pull; focus ((repeat first | exact Del.head _ _ | apply Del.tail); done)) | (refine Imp.stA ?_; simp only [List.cons_append, List.nil_append]) | (refine Imp.slN ?_) | apply Imp.drop))) ?_; refine T.rng (A := row 82 c3 [.pointer (some ⟨n, 6, none⟩)] :: row 95 c4 [.pointer (some ⟨c2, 0, none⟩)] :: [row 28 c2 [.int .i64 ((0 : Nat) : Int)], row 81 n [.pointer (some ⟨p, 0, none⟩), .int .i64 (bz : Nat), .pointer (some ⟨r1, 0, none⟩), .pointer (some ⟨q1, 0, none⟩), .map (some m1), .int .i64 (l1), .pointer (some ⟨r2, 0, none⟩), .pointer (some ⟨q2, 0, none⟩), .map (some m2), .int .i64 ((l2 : Nat))], rgA r2 p A (⟨X, tk, ls, wh⟩ : TxS).X (⟨X, tk, ls, wh⟩ : TxS).tk nx (⟨X, tk, ls, wh⟩ : TxS).ls br, memA p bs lt, mapJ u32W m2 (.u16, MX (⟨X, tk, ls, wh⟩ : TxS).X), stA [row 32 c1 [.pointer (some ⟨n, 0, none⟩)], poolV q2 p P bz (⟨X, tk, ls, wh⟩ : TxS).wh]]) (first := []) (cap := [.pointer (some ⟨c3, 0, none⟩), .pointer (some ⟨c4, 0, none⟩)]) rfl Try.call49 (Pick.app _ _) (fun L1 => ∃ (s : TxS) (hd sz e : Nat) (X' : XC) (tk' : List Bool) (ls' : Nat) (br' : Bool) (lt' : List Bool), (TxI A nn N s.X s.tk nx s.ls ∧ TxT bs lt A P bz br X tk ls wh s.X s.tk s.ls s.wh ∧ s.wh.length = wh.length) ∧ PollP bs lt A s.X s.tk s.ls br hd sz false e X' tk' ls' br' lt' ∧ L1 = row 82 c3 [.pointer (some ⟨n, 6, none⟩)] :: row 95 c4 [.pointer (some ⟨c2, 0, none⟩)] :: [row 28 c2 [.int .i64 (e : Nat)], row 81 n [.pointer (some ⟨p, 0, none⟩), .int .i64 (bz : Nat), .pointer (some ⟨r1, 0, none⟩), .pointer (some ⟨q1, 0, none⟩), .map (some m1), .int .i64 (l1), .pointer (some ⟨r2, 0, none⟩), .pointer (some ⟨q2, 0, none⟩), .map (some m2), .int .i64 ((l2 : Nat))], rgA r2 p A X' tk' nx ls' br', memA p bs lt', mapJ u32W m2 (.u16, MX X'), stA [row 32 c1 [.pointer (some ⟨n, 0, none⟩)], poolV q2 p P bz s.wh]]) ?_ ?_)
      | (intro l m fn; refine SatC.post (done6_spec (S := TxS) c3 c4 c2 n p r1 q1 m1 r2 q2 m2 A bz l1 br (fun s => s.X) (fun s => s.tk) (fun _ => nx) (fun s => s.ls) (fun _ => bs) (fun _ => lt) (fun _ => ((l2 : Nat) : Int)) (fun s => stA [row 32 c1 [.pointer (some ⟨n, 0, none⟩)], poolV q2 p P bz s.wh]) (fun s => (TxI A nn N s.X s.tk nx s.ls ∧ TxT bs lt A P bz br X tk ls wh s.X s.tk s.ls s.wh ∧ s.wh.length = wh.length)) (fun s => s.X.length) (fun s h => (by have h9 := h.1.ok; rw [← hb] at h9; exact h9)) rfl rfl rfl (fun s hd sz e X' tk' ls' br' lt' hI hp => ?_) (⟨X, tk, ls, wh⟩ : TxS) ⟨i, .refl, rfl⟩) (fun v L' h => by obtain ⟨s, hd, sz, e, X', tk', ls', br', lt', hI, hp, rfl⟩ := h; exact ⟨_, ⟨s, hd, sz, e, X', tk', ls', br', lt', hI, hp, rfl⟩, rfl⟩); (try dsimp only); have q := tx_poll hI.1 hp; have hbr := q.b0.trans q.b1.symm; subst hbr; have hlt9 := q.t1.symm; subst hlt9; have hat := q.at_; have hwl := hI.2.2; refine Yl.of2 (fun R => ?_); simp only [List.cons_append, List.nil_append])
      | (intro m L1 hL1; obtain ⟨s, hd, sz, e, X', tk', ls', br', lt', hI, hp, rfl⟩ := hL1; obtain ⟨e1, e2, e3, e4⟩ := poll_same hp; subst e1; subst e2; subst e3; subst e4; obtain ⟨hi1, hi2, hi3⟩ := hI; have he20 := (poll_hd hp).2.2; have hPw9 : P + s.wh.length * bz ≤ 1048576 := (by rw [hi3]; exact hPw); simp only [List.cons_append, List.nil_append])
      | (refine TQ.thenR ?_; generalize lrec _ _ _ _ _ _ = o9)
      | (refine T.atR 10 ?_; clear hg10; refine T.ent (Ent.imp (imp_stA (by repeat first | exact Del.head _ _ | apply Del.tail))) ?_; simp only [List.cons_append, List.nil_append])
      | (refine T.atR 11 ?_; clear hg11; refine T.ent (Ent.imp (imp_stA (by repeat first | exact Del.head _ _ | apply Del.tail))) ?_; simp only [List.cons_append, List.nil_append])
      | (refine TQ.atE ?_; rename_i e9 wh9; have hpt := b; refine TQ.endR (L1 := [row 28 c2 [.int .i64 (e : Nat)], row 81 n [.pointer (some ⟨p, 0, none⟩), .int .i64 (bz : Nat), .pointer (some ⟨r1, 0, none⟩), .pointer (some ⟨q1, 0, none⟩), .map (some m1), .int .i64 (l1), .pointer (some ⟨r2, 0, none⟩), .pointer (some ⟨q2, 0, none⟩), .map (some m2), .int .i64 ((l2 : Nat))], rgA r2 p A (⟨X', tk', ls', wh9⟩ : TxS).X (⟨X', tk', ls', wh9⟩ : TxS).tk nx (⟨X', tk', ls', wh9⟩ : TxS).ls br, memA p bs lt, mapJ u32W m2 (.u16, MX (⟨X', tk', ls', wh9⟩ : TxS).X), stA [row 32 c1 [.pointer (some ⟨n, 0, none⟩)], poolV q2 p P bz (⟨X', tk', ls', wh9⟩ : TxS).wh]]) ⟨(⟨X', tk', ls', wh9⟩ : TxS), ⟨q.tx, .step hI.2.1 hp hpt, hpt.len.trans hwl⟩, (by have := q.xl; dsimp only; omega), (by trivial), rfl⟩ (Ent.imp (by dsimp only; repeat first | exact Imp.refl _ | (apply Imp.pull; focus ((repeat first | exact Del.head _ _ | apply Del.tail); done)) | (refine Imp.stA ?_; simp only [List.cons_append, List.nil_append]) | (refine Imp.slN ?_) | apply Imp.drop)))
      | (refine TQ.atRet ?_; refine TQ.finM ?_ (by repeat first | exact Del.head _ _ | apply Del.tail))
      | (refine finAt ?_; exact Fini.of ⟨_, _, _, _, _, _, _, _, _, .short (by omega), rfl, rfl⟩ (by repeat first | exact Imp.refl _ | (apply Imp.pull; focus ((repeat first | exact Del.head _ _ | apply Del.tail); done)) | apply Imp.drop))
      | (refine finAt ?_; exact Fini.of ⟨_, _, _, _, _, _, _, _, _, .long (by omega) (by omega), rfl, rfl⟩ (by repeat first | exact Imp.refl _ | (apply Imp.pull; focus ((repeat first | exact Del.head _ _ | apply Del.tail); done)) | apply Imp.drop))
      | refine T.pk 17 [5, 8] (.p 4 (.p 6 (.g 0 (.p 1 (.p 2 (.g 3 (.n 5 (.p 7 (.n 8 .fin))))))))) ?_
      | refine And.intro (fun hc => ?_) (fun hc => ?_)
      | refine And.intro ?_ ?_
      | intro b
      | refine stk ?_
      | refine stp ?_
      | refine TQ.finC ?_
      | refine TQ.finC2 ?_
      | refine TQ.finC3 ?_
      | refine ⟨fun hc => ?_, fun hc => ?_⟩
      | refine Ei.f ?_
      | refine ⟨?_, ?_⟩
      | intro b
      | exact absurd rfl hc
      | exact absurd hc (by decide)
      | omega
      | (dsimp only; omega)
      | fail)

end Go.Proofs.Ytimaecgdahmmdaa

