/- Lemmas for the proofs of this seat: no statement of the seat is claimed here. -/
import Derived.Test.YtcidilijlgaohaaDoorA6
import Derived.Test.YtcidilijlgaohaaDoorPxG
import Derived.Test.YtcidilijlgaohaaDoorA7H
set_option linter.all false
namespace Go.Proofs.YtcidilijlgaohaaDoor
open Go Pw
set_option maxRecDepth 20000
set_option maxHeartbeats 4000000
set_option maxHeartbeats 3000000

instance (priority := 2000) : RepL 16 [.int .u8 0] [.int .u8 0, .int .u8 0, .int .u8 0, .int .u8 0, .int .u8 0, .int .u8 0, .int .u8 0, .int .u8 0, .int .u8 0, .int .u8 0, .int .u8 0, .int .u8 0, .int .u8 0, .int .u8 0, .int .u8 0, .int .u8 0] := ⟨rfl⟩
instance (priority := 2000) : FilA (0 + 1) [.int .u8 0, .int .u8 0, .int .u8 0, .int .u8 0, .int .u8 0, .int .u8 0, .int .u8 0, .int .u8 0, .int .u8 0, .int .u8 0, .int .u8 0, .int .u8 0, .int .u8 0, .int .u8 0, .int .u8 0, .int .u8 0] [(0, .int .u8 101), (1, .int .u8 120), (2, .int .u8 112), (3, .int .u8 97), (4, .int .u8 110), (5, .int .u8 100), (6, .int .u8 32), (7, .int .u8 51), (8, .int .u8 50), (9, .int .u8 45), (10, .int .u8 98), (11, .int .u8 121), (12, .int .u8 116), (13, .int .u8 101), (14, .int .u8 32), (15, .int .u8 107)] [.int .u8 101, .int .u8 120, .int .u8 112, .int .u8 97, .int .u8 110, .int .u8 100, .int .u8 32, .int .u8 51, .int .u8 50, .int .u8 45, .int .u8 98, .int .u8 121, .int .u8 116, .int .u8 101, .int .u8 32, .int .u8 107] := ⟨rfl⟩
instance (priority := 2000) : BL [.int .u8 101, .int .u8 120, .int .u8 112, .int .u8 97, .int .u8 110, .int .u8 100, .int .u8 32, .int .u8 51, .int .u8 50, .int .u8 45, .int .u8 98, .int .u8 121, .int .u8 116, .int .u8 101, .int .u8 32, .int .u8 107] [UInt8.ofNat 101, UInt8.ofNat 120, UInt8.ofNat 112, UInt8.ofNat 97, UInt8.ofNat 110, UInt8.ofNat 100, UInt8.ofNat 32, UInt8.ofNat 51, UInt8.ofNat 50, UInt8.ofNat 45, UInt8.ofNat 98, UInt8.ofNat 121, UInt8.ofNat 116, UInt8.ofNat 101, UInt8.ofNat 32, UInt8.ofNat 107] True := ⟨fun _ => rfl⟩
/-- The table of quarters, as it was laid. -/
def quA : Assn := pt 0 (.cells (qsE.flatMap qf).toArray 73 (0, 0))
theorem D.entq {P : Program} {c : Ctx} {L L' : List Assn} {E : Env} {o : Oper} {v : Value} (h : Ent c L L') (hD : D P c L' E o v) : D P c L E o v := by
  unfold D at *
  exact ⟨hD.1, fun w hw => hD.2 w (h w hw)⟩
theorem qsE_fl : (List.flatMap qf qsE).length = 31 + 1 := by decide
instance {c : Ctx} {L R : List Assn} [hd : DelC quA L R] : Re Tryd.prog c L (.load 73 (.pointer (some ⟨0, 0, none⟩))) (fun k => k (.agg (qsE.flatMap qf).toArray)) := ⟨fun E d op ty pos af g hs k hk => by
  have h := Re.go (P := Tryd.prog) (c := c) (L := row 73 0 (qsE.flatMap qf) :: R) (ro := .load 73 (.pointer (some ⟨0, 0, none⟩))) E d op ty pos af g hs k (Vc.mk qsE_fl hk)
  obtain ⟨v, hD, hk'⟩ := h
  exact ⟨v, D.entq (Ent.trans (Ent.perm hd.h.perm) (fun w hw => ⟨hw.1, hw.2.1, hw.2.2.1, hw.2.2.2.imp fun f hf => row.mk hf⟩)) hD, hk'⟩⟩
structure Hold (p : Prop) : Prop where mk ::
  h : p
def magicE : List UInt8 := [UInt8.ofNat 101, UInt8.ofNat 120, UInt8.ofNat 112, UInt8.ofNat 97, UInt8.ofNat 110, UInt8.ofNat 100, UInt8.ofNat 32, UInt8.ofNat 51, UInt8.ofNat 50, UInt8.ofNat 45, UInt8.ofNat 98, UInt8.ofNat 121, UInt8.ofNat 116, UInt8.ofNat 101, UInt8.ofNat 32, UInt8.ofNat 107]
def textE (key nonce : List UInt8) (n : Nat) : List UInt8 := [UInt8.ofNat 101, UInt8.ofNat 120, UInt8.ofNat 112, UInt8.ofNat 97, UInt8.ofNat 110, UInt8.ofNat 100, UInt8.ofNat 32, UInt8.ofNat 51, UInt8.ofNat 50, UInt8.ofNat 45, UInt8.ofNat 98, UInt8.ofNat 121, UInt8.ofNat 116, UInt8.ofNat 101, UInt8.ofNat 32, UInt8.ofNat 107] ++ key ++ leB n 4 ++ nonce
theorem textE_len {key nonce : List UInt8} {n : Nat} (h1 : key.length = 32) (h2 : nonce.length = 12) : (textE key nonce n).length = 64 := by simp [textE, leB_len, h1, h2]
def outsE (xs ys : List Nat) : Nat → List UInt8
  | 0 => []
  | i + 1 => outsE xs ys i ++ leB ((gt xs i + gt ys i) % 4294967296) 4
theorem outsE_len (xs ys : List Nat) : ∀ i, (outsE xs ys i).length = 4 * i
  | 0 => rfl
  | i + 1 => by rw [outsE, List.length_append, outsE_len xs ys i, leB_len]; omega
theorem outs_0 {xs ys : List Nat} : List.replicate 64 (.int .u8 0) = (outsE xs ys 0 ++ List.replicate (64 - 4 * 0) 0).map byteV := by rw [outsE, List.nil_append, List.map_replicate]; rfl
theorem outs_put {xs ys : List Nat} {i : Nat} (h : i < 16) : putL (outsE xs ys i ++ List.replicate (64 - 4 * i) 0) (4 * i) (leB ((gt xs i + gt ys i) % 4294967296) 4) = outsE xs ys (i + 1) ++ List.replicate (64 - 4 * (i + 1)) 0 := by
  have h1 := outsE_len xs ys i
  rw [putL, leB_len, List.take_left' h1, outsE, List.drop_append, List.drop_of_length_le (by omega), h1, List.drop_replicate]
  simp; omega
def blockE (key nonce : List UInt8) (n : Nat) : List UInt8 := outsE (wordsE (textE key nonce n) 16 16) (rnds (wordsE (textE key nonce n) 16 16) 10) 16
theorem blockE_len (key nonce : List UInt8) (n : Nat) : (blockE key nonce n).length = 64 := outsE_len _ _ 16
instance {L : List Assn} {x n : Nat} {y z : Int} [hx : Nn y x] [hz : Nn z n] : FnR Tryd.prog 31 [.slice none 0 0, .int .u64 y, .int .i64 z] L (fun q => Vc (n ≤ 8 ∧ x < 18446744073709551616) (∀ a k, q (.slice a n k) (sl 5 1 (.slice a n k) n ((leB x n).map byteV) :: L))) :=
  ⟨fun q h => by
    obtain ⟨⟨h1, h2⟩, h4⟩ := h
    refine ⟨[], L, _, by rw [hx.h, hz.h]; exact Sat.ent (fun c R => Ent.nil) (bytes_spec [] none 0 x n h1 (by simp) h2), .nil _, fun v L' hq => ?_⟩
    obtain ⟨a, k, h5, h6⟩ := hq
    simp only [List.length_nil, Nat.zero_add, List.nil_append] at h5 h6
    rw [h5, h6]; exact h4 a k⟩

theorem wordsE_0 {l : List UInt8} : [.int .u32 0, .int .u32 0, .int .u32 0, .int .u32 0, .int .u32 0, .int .u32 0, .int .u32 0, .int .u32 0, .int .u32 0, .int .u32 0, .int .u32 0, .int .u32 0, .int .u32 0, .int .u32 0, .int .u32 0, .int .u32 0] = (wordsE l 16 0).map vU32 := rfl
theorem qrs_0 {ys : List Nat} : ys = qrs ys 0 := rfl
theorem rnds_0 {ys : List Nat} : ys = rnds ys 0 := rfl
theorem qrs_s {ys : List Nat} {i : Nat} : quart (gt qsE i) (qrs ys i) = qrs ys (i + 1) := rfl
theorem rnds_s {ys : List Nat} {i : Nat} : qrs (rnds ys i) 8 = rnds ys (i + 1) := rfl
theorem qsE_len : qsE.length = 8 := rfl
attribute [local irreducible] gt rotE leE wordsE qrs rnds textE outsE leB putL qsE
theorem block_spec (key nonce : List UInt8) (n : Nat) (h1 : key.length = 32) (h2 : nonce.length = 12) (hn : n < 4294967296) :
    Sat Tryd.prog 22 [str key, str nonce, .int .u32 n] [quA] (fun u L' => u = .agg ((blockE key nonce n).map byteV).toArray ∧ L' = [quA]) := by
  all_goals
    refine Sat.enter Tryd.func22 rfl Tryd.ntmps22 rfl (fun c R => ?_)
    try simp only [List.cons_append, List.nil_append]
    repeat' (first
      | (rename_i b6 bb a2 k2 a3 k3 a4 k4; refine T.osl ?_ (fun bt j rest e1 e2 hr hl => ?_); omega; subst e1 e2; refine T.lpa 0 [(6, _), (8, _), (7, _)] ((0, [.int .u32 0, .int .u32 0, .int .u32 0, .int .u32 0, .int .u32 0, .int .u32 0, .int .u32 0, .int .u32 0, .int .u32 0, .int .u32 0, .int .u32 0, .int .u32 0, .int .u32 0, .int .u32 0, .int .u32 0, .int .u32 0]) : Nat × List Value) (fun s => [(30, .int .i64 (s.1 : Nat))]) (fun s => [row 47 b s.2]) (fun s => s.1 ≤ 16 ∧ s.2 = (wordsE (textE key nonce n) 16 s.1).map vU32) (fun s => 16 - s.1) ⟨Nat.zero_le _, by exact wordsE_0⟩ ?_; rintro ⟨i, ys⟩ g ⟨hI, hy⟩; dsimp only at hI hy ⊢; subst hy; have hwl := wordsE_len (l := textE key nonce n) hI; have htl := textE_len (n := n) h1 h2; have e3 : [UInt8.ofNat 101, UInt8.ofNat 120, UInt8.ofNat 112, UInt8.ofNat 97, UInt8.ofNat 110, UInt8.ofNat 100, UInt8.ofNat 32, UInt8.ofNat 51, UInt8.ofNat 50, UInt8.ofNat 45, UInt8.ofNat 98, UInt8.ofNat 121, UInt8.ofNat 116, UInt8.ofNat 101, UInt8.ofNat 32, UInt8.ofNat 107] ++ key ++ leB n 4 ++ nonce = textE key nonce n := (by unfold textE; rfl); simp only [e3]; simp only [List.cons_append, List.nil_append, appR])
      | (refine Vc.mk (by first | (simp only [true_and, and_true, List.length_append, List.length_cons, List.length_nil, List.length_map, leB_len, List.length_drop, List.length_take, List.length_replicate, outsE_len]; done) | (simp only [true_and, and_true, List.length_append, List.length_cons, List.length_nil, List.length_map, leB_len, List.length_drop, List.length_take, List.length_replicate, outsE_len]; omega) | (simp only [true_and, and_true, List.length_append, List.length_cons, List.length_nil, List.length_map, leB_len, List.length_drop, List.length_take, List.length_replicate, outsE_len, h1, h2]; first | done | omega) | (simp only [true_and, and_true, List.length_append, List.length_cons, List.length_nil, List.length_map, leB_len, List.length_drop, List.length_take, List.length_replicate, outsE_len, hwl, htl]; first | done | omega)) ?_)
      | (refine TQ.rd (i + 1, _) rfl ⟨rfl, rfl, rfl, rfl, trivial⟩ ?_ ?_ (Ent.imp (by repeat first | exact Imp.refl _ | (apply Imp.pull; focus ((repeat first | exact Del.head _ _ | apply Del.tail); done)) | apply Imp.drop)); rotate_left)
      | (dsimp only; rw [show 4 * i + 4 - 4 * i = 4 by omega, show 4 * i * (0 + 1) = 4 * i by omega]; exact congrArg (List.map vU32) (wordsE_set hc))
      | (refine T.atB 2 ?_; rename_i bx; obtain ⟨yb, hyb⟩ : ∃ yb, yb = b := ⟨_, rfl⟩; subst hyb; have hi16 : i = 16 := (by omega); subst hi16; haveI : Ln (wordsE (textE key nonce n) 16 16) 16 := ⟨hwl⟩; haveI : B32 (wordsE (textE key nonce n) 16 16) := wordsE_B32; refine T.lpa 2 [(6, _), (8, _), (10, _)] ((0, wordsE (textE key nonce n) 16 16) : Nat × List Nat) (fun s => [(46, .int .i64 (s.1 : Nat))]) (fun s => [row 47 yb (s.2.map vU32)]) (fun s => s.1 ≤ 10 ∧ s.2 = rnds (wordsE (textE key nonce n) 16 16) s.1) (fun s => 10 - s.1) ⟨Nat.zero_le _, by exact rnds_0⟩ ?_; rintro ⟨i2, ys⟩ g ⟨hI2, hy⟩; dsimp only at hI2 hy ⊢; haveI : Ln ys 16 := (by rw [hy]; infer_instance); haveI : B32 ys := (by rw [hy]; infer_instance); simp only [List.cons_append, List.nil_append, appR]; refine Hold.h ?_)
      | refine T.pl 15 [] (.p 0 (.p 3 (.p 6 (.p 9 (.d 1 (.p 2 (.p 12 (.d 4 (.p 5 (.p 13 (.d 7 (.p 8 (.p 14 (.d 10 (.p 11 (.p 15 .fin)))))))))))))))) ?_
      | refine T.pl 19 [8] (.p 0 (.p 1 (.p 3 (.p 4 (.d 2 (.d 5 (.p 6 (.p 7 (.n 8 .fin))))))))) ?_
      | refine T.pl 20 [10, 12] (.p 0 (.p 1 (.p 2 (.p 4 (.p 5 (.p 8 (.d 3 (.d 6 (.p 7 (.d 9 (.n 10 (.p 11 (.n 12 .fin))))))))))))) ?_
      | refine T.pl 21 [8] (.p 0 (.p 1 (.p 3 (.p 4 (.d 2 (.d 5 (.p 6 (.p 7 (.n 8 .fin))))))))) ?_
      | refine T.pl 22 [10, 12] (.p 0 (.p 1 (.p 2 (.p 4 (.p 5 (.p 8 (.d 3 (.d 6 (.p 7 (.d 9 (.n 10 (.p 11 (.n 12 .fin))))))))))))) ?_
      | refine T.pl 29 [11, 12] (.p 0 (.p 1 (.p 2 (.p 3 (.p 4 (.p 6 (.p 7 (.d 5 (.d 8 (.p 9 (.p 10 (.n 11 (.n 12 .fin))))))))))))) ?_
      | refine And.intro (fun hc => ?_) (fun hc => ?_)
      | refine And.intro ?_ ?_
      | intro b
      | refine stp ?_
      | refine TQ.finC ?_
      | refine ⟨fun hc => ?_, fun hc => ?_⟩
      | refine Ei.f ?_
      | refine ⟨?_, ?_⟩
      | intro b
      | omega
      | (dsimp only; omega)
      |  fail)
    all_goals try refine Hold.mk ?_
    repeat' (first
      | (refine T.atB 4 ?_; refine T.lpa 4 [(46, _), (6, _), (8, _), (10, _), (48, _)] ((0, ys) : Nat × List Nat) (fun s => [(49, .int .i64 (s.1 : Nat))]) (fun s => [row 47 yb (s.2.map vU32)]) (fun s => s.1 ≤ 8 ∧ s.2 = qrs ys s.1) (fun s => 8 - s.1) ⟨Nat.zero_le _, by exact qrs_0⟩ ?_; rintro ⟨i3, zs⟩ g ⟨hI3, hz⟩; dsimp only at hI3 hz ⊢; haveI : Ln zs 16 := (by rw [hz]; infer_instance); haveI : B32 zs := (by rw [hz]; infer_instance); simp only [List.cons_append, List.nil_append, appR]; obtain ⟨q1, q2, q3, q4⟩ := qs_lt i3; refine Hold.h ?_)
      | (refine T.atB 8 ?_; rename_i b8; have hi10 : i2 = 10 := (by omega); subst hi10; refine T.lpa 8 [(6, _), (8, _), (10, _)] ((0, List.replicate 64 (.int .u8 0)) : Nat × List Value) (fun s => [(113, .int .i64 (s.1 : Nat))]) (fun s => [row 44 b6 s.2]) (fun s => s.1 ≤ 16 ∧ s.2 = (outsE (wordsE (textE key nonce n) 16 16) ys s.1 ++ List.replicate (64 - 4 * s.1) 0).map byteV) (fun s => 16 - s.1) ⟨Nat.zero_le _, by exact outs_0⟩ ?_; rintro ⟨i4, bs⟩ g ⟨hI4, hb⟩; dsimp only at hI4 hb ⊢; subst hb; simp only [List.cons_append, List.nil_append, appR]; refine Hold.h ?_)
      | (refine Vc.mk (by first | (simp only [true_and, and_true, List.length_append, List.length_cons, List.length_nil, List.length_map, leB_len, List.length_drop, List.length_take, List.length_replicate, outsE_len]; done) | (simp only [true_and, and_true, List.length_append, List.length_cons, List.length_nil, List.length_map, leB_len, List.length_drop, List.length_take, List.length_replicate, outsE_len]; omega) | (simp only [true_and, and_true, List.length_append, List.length_cons, List.length_nil, List.length_map, leB_len, List.length_drop, List.length_take, List.length_replicate, outsE_len, h1, h2]; first | done | omega) | (simp only [true_and, and_true, List.length_append, List.length_cons, List.length_nil, List.length_map, leB_len, List.length_drop, List.length_take, List.length_replicate, outsE_len, hwl, htl]; first | done | omega)) ?_)
      | refine T.pl 15 [] (.p 0 (.p 3 (.p 6 (.p 9 (.d 1 (.p 2 (.p 12 (.d 4 (.p 5 (.p 13 (.d 7 (.p 8 (.p 14 (.d 10 (.p 11 (.p 15 .fin)))))))))))))))) ?_
      | refine T.pl 19 [8] (.p 0 (.p 1 (.p 3 (.p 4 (.d 2 (.d 5 (.p 6 (.p 7 (.n 8 .fin))))))))) ?_
      | refine T.pl 20 [10, 12] (.p 0 (.p 1 (.p 2 (.p 4 (.p 5 (.p 8 (.d 3 (.d 6 (.p 7 (.d 9 (.n 10 (.p 11 (.n 12 .fin))))))))))))) ?_
      | refine T.pl 21 [8] (.p 0 (.p 1 (.p 3 (.p 4 (.d 2 (.d 5 (.p 6 (.p 7 (.n 8 .fin))))))))) ?_
      | refine T.pl 22 [10, 12] (.p 0 (.p 1 (.p 2 (.p 4 (.p 5 (.p 8 (.d 3 (.d 6 (.p 7 (.d 9 (.n 10 (.p 11 (.n 12 .fin))))))))))))) ?_
      | refine T.pl 29 [11, 12] (.p 0 (.p 1 (.p 2 (.p 3 (.p 4 (.p 6 (.p 7 (.d 5 (.d 8 (.p 9 (.p 10 (.n 11 (.n 12 .fin))))))))))))) ?_
      | refine And.intro (fun hc => ?_) (fun hc => ?_)
      | refine And.intro ?_ ?_
      | intro b
      | refine stp ?_
      | refine TQ.finC ?_
      | refine ⟨fun hc => ?_, fun hc => ?_⟩
      | refine Ei.f ?_
      | refine ⟨?_, ?_⟩
      | intro b
      | omega
      | (dsimp only; omega)
      |  fail)
    all_goals try refine Hold.mk ?_
    repeat' (first
      | (first | refine Vc.mk ⟨Lt32.h, Lt32.h⟩ ?_ | refine Vc.mk ⟨by decide, Lt32.h⟩ ?_ | refine Vc.mk (lt_ln (by first | decide | assumption)) ?_ | refine Vc.mk ⟨lt_ln (by first | decide | assumption), trivial⟩ ?_)
      | (refine Vc.mk (by first | (simp only [true_and, and_true, List.length_append, List.length_cons, List.length_nil, List.length_map, leB_len, List.length_drop, List.length_take, List.length_replicate, outsE_len]; done) | (simp only [true_and, and_true, List.length_append, List.length_cons, List.length_nil, List.length_map, leB_len, List.length_drop, List.length_take, List.length_replicate, outsE_len]; omega) | (simp only [true_and, and_true, List.length_append, List.length_cons, List.length_nil, List.length_map, leB_len, List.length_drop, List.length_take, List.length_replicate, outsE_len, h1, h2]; first | done | omega) | (simp only [true_and, and_true, List.length_append, List.length_cons, List.length_nil, List.length_map, leB_len, List.length_drop, List.length_take, List.length_replicate, outsE_len, hwl, htl]; first | done | omega)) ?_)
      | exact qsE_fl
      | (rw [qsE_len]; exact hc)
      | (refine TQ.rd (i4 + 1, _) rfl ⟨rfl, rfl, rfl, rfl, trivial⟩ ⟨by omega, ?_⟩ (by dsimp only; omega) (Ent.imp (by repeat first | exact Imp.refl _ | (apply Imp.pull; focus ((repeat first | exact Del.head _ _ | apply Del.tail); done)) | apply Imp.drop)))
      | (dsimp only; rw [show 4 * i4 * (0 + 1) = 4 * i4 by omega]; exact congrArg (List.map byteV) (outs_put (by omega)))
      | (refine TQ.rd (i2 + 1, _) rfl ⟨rfl, rfl, rfl, rfl, trivial⟩ ⟨by omega, ?_⟩ (by dsimp only; omega) (Ent.imp (by repeat first | exact Imp.refl _ | (apply Imp.pull; focus ((repeat first | exact Del.head _ _ | apply Del.tail); done)) | apply Imp.drop)))
      | (dsimp only; have hi8 : i3 = 8 := (by omega); rw [hz, hi8, hy]; exact rnds_s)
      | (have e16 : i4 = 16 := (by omega); subst e16; exact Fini.mk ⟨by rw [hy]; simp [blockE], rfl⟩)
      | (refine T.atB 6 ?_; refine T.unb 6 2 ?_; refine Hold.h ?_)
      | refine T.pl 15 [] (.p 0 (.p 3 (.p 6 (.p 9 (.d 1 (.p 2 (.p 12 (.d 4 (.p 5 (.p 13 (.d 7 (.p 8 (.p 14 (.d 10 (.p 11 (.p 15 .fin)))))))))))))))) ?_
      | refine T.pl 19 [8] (.p 0 (.p 1 (.p 3 (.p 4 (.d 2 (.d 5 (.p 6 (.p 7 (.n 8 .fin))))))))) ?_
      | refine T.pl 20 [10, 12] (.p 0 (.p 1 (.p 2 (.p 4 (.p 5 (.p 8 (.d 3 (.d 6 (.p 7 (.d 9 (.n 10 (.p 11 (.n 12 .fin))))))))))))) ?_
      | refine T.pl 21 [8] (.p 0 (.p 1 (.p 3 (.p 4 (.d 2 (.d 5 (.p 6 (.p 7 (.n 8 .fin))))))))) ?_
      | refine T.pl 22 [10, 12] (.p 0 (.p 1 (.p 2 (.p 4 (.p 5 (.p 8 (.d 3 (.d 6 (.p 7 (.d 9 (.n 10 (.p 11 (.n 12 .fin))))))))))))) ?_
      | refine T.pl 29 [11, 12] (.p 0 (.p 1 (.p 2 (.p 3 (.p 4 (.p 6 (.p 7 (.d 5 (.d 8 (.p 9 (.p 10 (.n 11 (.n 12 .fin))))))))))))) ?_
      | refine And.intro (fun hc => ?_) (fun hc => ?_)
      | refine And.intro ?_ ?_
      | intro b
      | refine stp ?_
      | refine TQ.finC ?_
      | refine ⟨fun hc => ?_, fun hc => ?_⟩
      | refine Ei.f ?_
      | refine ⟨?_, ?_⟩
      | intro b
      | omega
      | (dsimp only; omega)
      |  fail)
    all_goals try refine Hold.mk ?_
    repeat' (first
      | (first | refine Vc.mk ⟨Lt32.h, Lt32.h⟩ ?_ | refine Vc.mk ⟨by decide, Lt32.h⟩ ?_ | refine Vc.mk (lt_ln (by first | decide | assumption)) ?_ | refine Vc.mk ⟨lt_ln (by first | decide | assumption), trivial⟩ ?_)
      | (refine T.atB 7 ?_; refine T.useB 7 (fun g => half_1 (yb := yb) (A := (gt qsE i3).1) (B := (gt qsE i3).2.1) (C := (gt qsE i3).2.2.1) (D := (gt qsE i3).2.2.2) z1 q1 q2 q3 q4) (fun z2 g e2 => ?_); haveI : Ln z2 16 := (by rw [e2]; infer_instance); haveI : B32 z2 := (by rw [e2]; infer_instance))
      | (refine T.atB 7 ?_; refine T.useB 7 (fun g => half_0 (yb := yb) (A := (gt qsE i3).1) (B := (gt qsE i3).2.1) (C := (gt qsE i3).2.2.1) (D := (gt qsE i3).2.2.2) zs q1 q2 q3 q4) (fun z1 g e1 => ?_); haveI : Ln z1 16 := (by rw [e1]; infer_instance); haveI : B32 z1 := (by rw [e1]; infer_instance))
      | (refine TQ.rd (i3 + 1, _) rfl ⟨rfl, rfl, rfl, rfl, rfl, rfl, trivial⟩ ⟨by omega, ?_⟩ (by dsimp only; omega) (Ent.imp (by repeat first | exact Imp.refl _ | (apply Imp.pull; focus ((repeat first | exact Del.head _ _ | apply Del.tail); done)) | apply Imp.drop)))
      | (show z2 = _; rw [e2, e1, hz]; exact qrs_s)
      | refine T.pl 15 [] (.p 0 (.p 3 (.p 6 (.p 9 (.d 1 (.p 2 (.p 12 (.d 4 (.p 5 (.p 13 (.d 7 (.p 8 (.p 14 (.d 10 (.p 11 (.p 15 .fin)))))))))))))))) ?_
      | refine T.pl 19 [8] (.p 0 (.p 1 (.p 3 (.p 4 (.d 2 (.d 5 (.p 6 (.p 7 (.n 8 .fin))))))))) ?_
      | refine T.pl 20 [10, 12] (.p 0 (.p 1 (.p 2 (.p 4 (.p 5 (.p 8 (.d 3 (.d 6 (.p 7 (.d 9 (.n 10 (.p 11 (.n 12 .fin))))))))))))) ?_
      | refine T.pl 21 [8] (.p 0 (.p 1 (.p 3 (.p 4 (.d 2 (.d 5 (.p 6 (.p 7 (.n 8 .fin))))))))) ?_
      | refine T.pl 22 [10, 12] (.p 0 (.p 1 (.p 2 (.p 4 (.p 5 (.p 8 (.d 3 (.d 6 (.p 7 (.d 9 (.n 10 (.p 11 (.n 12 .fin))))))))))))) ?_
      | refine T.pl 29 [11, 12] (.p 0 (.p 1 (.p 2 (.p 3 (.p 4 (.p 6 (.p 7 (.d 5 (.d 8 (.p 9 (.p 10 (.n 11 (.n 12 .fin))))))))))))) ?_
      | refine And.intro (fun hc => ?_) (fun hc => ?_)
      | refine And.intro ?_ ?_
      | intro b
      | refine stp ?_
      | refine TQ.finC ?_
      | refine ⟨fun hc => ?_, fun hc => ?_⟩
      | refine Ei.f ?_
      | refine ⟨?_, ?_⟩
      | intro b
      | omega
      | (dsimp only; omega)
      | fail)
attribute [irreducible] blockE

end Go.Proofs.YtcidilijlgaohaaDoor
