/- Lemmas for the proofs of this seat: no statement of the seat is claimed here. -/
import Derived.Test.YthbpjjlinebooaaDoorKe
import Derived.Test.YthbpjjlinebooaaDoorKc
set_option linter.all false

namespace Go.Proofs.YthbpjjlinebooaaDoor
open Go Pw
set_option maxRecDepth 20000
set_option maxHeartbeats 4000000
set_option maxHeartbeats 400000
attribute [local irreducible] gt rotE leE qrs
theorem half_0 {c : Ctx} {R : List Assn} {Q : Exit → Env → Rd → World → Prop} {g : Nat → Value} {yb A B C D : Nat} {v46 v6 v8 v10 v49 v48 : Value} (zs : List Nat) [Ln zs 16] [B32 zs] [CalmC Q] (hA : A < 16) (hB : B < 16) (hC : C < 16) (hD : D < 16) :
    T Tryd.prog R0 c (row 140 yb (zs.map vU32) :: R) (blkOf Tryd.f73 7) (cutQ R0 c 131 (fun _ => [(46, v46), (6, v6), (8, v8), (10, v10), (49, v49), (13, .pointer (some ⟨yb, A, none⟩)), (14, .pointer (some ⟨yb, B, none⟩)), (15, .pointer (some ⟨yb, C, none⟩)), (16, .pointer (some ⟨yb, D, none⟩)), (48, v48), (66, .agg #[.int .i64 16, .int .i64 12, .int .i64 8, .int .i64 7]), (67, .int .i64 0)]) (fun s => row 140 yb (s.map vU32) :: R) (fun t => t = qh A B C D 16 12 zs) Q) ⟨131, [(46, v46), (6, v6), (8, v8), (10, v10), (49, v49), (13, .pointer (some ⟨yb, A, none⟩)), (14, .pointer (some ⟨yb, B, none⟩)), (15, .pointer (some ⟨yb, C, none⟩)), (16, .pointer (some ⟨yb, D, none⟩)), (48, v48), (66, .agg #[.int .i64 16, .int .i64 12, .int .i64 8, .int .i64 7]), (67, .int .i64 0)], g⟩ := by
  refine T.code ?_
  refine stp ?_
  refine stp ?_
  repeat' (first
    | (first | refine Vc.mk ⟨Lt32.h, Lt32.h⟩ ?_ | refine Vc.mk ⟨by decide, Lt32.h⟩ ?_ | refine Vc.mk (lt_ln (by first | decide | assumption)) ?_ | refine Vc.mk ⟨lt_ln (by first | decide | assumption), trivial⟩ ?_)
    | (refine T.atR 19 ?_; apply T.cutr 19 [(46, _), (6, _), (8, _), (10, _), (49, _), (13, _), (14, _), (15, _), (16, _), (48, _), (66, _), (67, _), (18, _)] zs (fun _ => []) (fun s : List Nat => [row 140 yb (s.map vU32)]) (by repeat' first | exact trivial | refine ⟨?_, ?_⟩ | (conv => lhs; whnf)); simp only [List.cons_append, List.nil_append, appR])
    | (refine T.atR 20 ?_; apply T.cutr 20 [(46, _), (6, _), (8, _), (10, _), (49, _), (13, _), (14, _), (15, _), (16, _), (48, _), (66, _), (67, _), (18, _)] z1 (fun _ => []) (fun s : List Nat => [row 140 yb (s.map vU32)]) (by repeat' first | exact trivial | refine ⟨?_, ?_⟩ | (conv => lhs; whnf)); simp only [List.cons_append, List.nil_append, appR])
    | (refine T.atR 21 ?_; apply T.cutr 21 [(46, _), (6, _), (8, _), (10, _), (49, _), (13, _), (14, _), (15, _), (16, _), (48, _), (66, _), (67, _), (18, _)] z2 (fun _ => []) (fun s : List Nat => [row 140 yb (s.map vU32)]) (by repeat' first | exact trivial | refine ⟨?_, ?_⟩ | (conv => lhs; whnf)); simp only [List.cons_append, List.nil_append, appR])
    | (refine TQ.atC ?_; refine TQ.cn _ rfl ⟨rfl, rfl, rfl, rfl, rfl, rfl, rfl, rfl, rfl, rfl, rfl, rfl, rfl, trivial⟩ rfl (Ent.imp (by repeat first | exact Imp.refl _ | (apply Imp.pull; focus ((repeat first | exact Del.head _ _ | apply Del.tail); done)) | apply Imp.drop)))
    | (first | (have _j := z2; clear _j; intro z3 g ez3; haveI : Ln z3 16 := (by rw [ez3]; infer_instance); haveI : B32 z3 := (by rw [ez3]; infer_instance); simp only [List.cons_append, List.nil_append, appR]) | (have _j := z1; clear _j; intro z2 g ez2; haveI : Ln z2 16 := (by rw [ez2]; infer_instance); haveI : B32 z2 := (by rw [ez2]; infer_instance); simp only [List.cons_append, List.nil_append, appR]) | (intro z1 g ez1; haveI : Ln z1 16 := (by rw [ez1]; infer_instance); haveI : B32 z1 := (by rw [ez1]; infer_instance); simp only [List.cons_append, List.nil_append, appR]))
    | (refine TQ.atC ?_; refine TQ.cn _ rfl ⟨rfl, rfl, rfl, rfl, rfl, rfl, rfl, rfl, rfl, rfl, rfl, rfl, trivial⟩ ?_ (Ent.imp (by repeat first | exact Imp.refl _ | (apply Imp.pull; focus ((repeat first | exact Del.head _ _ | apply Del.tail); done)) | apply Imp.drop)))
    | (rw [ez3, ez2, ez1]; rfl)
    | refine T.pl 15 [] (.p 0 (.p 3 (.p 6 (.p 9 (.d 1 (.p 2 (.p 12 (.d 4 (.p 5 (.p 13 (.d 7 (.p 8 (.p 14 (.d 10 (.p 11 (.p 15 .fin)))))))))))))))) ?_
    | refine T.pl 19 [8] (.p 0 (.p 1 (.p 3 (.p 4 (.d 2 (.d 5 (.p 6 (.p 7 (.n 8 .fin))))))))) ?_
    | refine T.pl 20 [10, 12] (.p 0 (.p 1 (.p 2 (.p 4 (.p 5 (.p 8 (.d 3 (.d 6 (.p 7 (.d 9 (.n 10 (.p 11 (.n 12 .fin))))))))))))) ?_
    | refine T.pl 21 [8] (.p 0 (.p 1 (.p 3 (.p 4 (.d 2 (.d 5 (.p 6 (.p 7 (.n 8 .fin))))))))) ?_
    | refine T.pl 22 [10, 12] (.p 0 (.p 1 (.p 2 (.p 4 (.p 5 (.p 8 (.d 3 (.d 6 (.p 7 (.d 9 (.n 10 (.p 11 (.n 12 .fin))))))))))))) ?_
    | refine T.pl 29 [11, 12] (.p 0 (.p 1 (.p 2 (.p 3 (.p 4 (.p 6 (.p 7 (.d 5 (.d 8 (.p 9 (.p 10 (.n 11 (.n 12 .fin))))))))))))) ?_
    | refine And.intro (fun hc => ?_) (fun hc => ?_)
    | refine And.intro ?_ ?_
    | intro b
    | refine stp ?_
    | refine TQ.finC ?_
    | refine TQ.finC2 ?_
    | refine TQ.finC3 ?_
    | refine ⟨fun hc => ?_, fun hc => ?_⟩
    | refine Ei.f ?_
    | refine ⟨?_, ?_⟩
    | intro b
    | omega
    | (dsimp only; omega)
    | fail)
theorem half_1 {c : Ctx} {R : List Assn} {Q : Exit → Env → Rd → World → Prop} {g : Nat → Value} {yb A B C D : Nat} {v46 v6 v8 v10 v49 v48 : Value} (zs : List Nat) [Ln zs 16] [B32 zs] [CalmC Q] (hA : A < 16) (hB : B < 16) (hC : C < 16) (hD : D < 16) :
    T Tryd.prog R0 c (row 140 yb (zs.map vU32) :: R) (blkOf Tryd.f73 7) (cutQ R0 c 131 (fun _ => [(46, v46), (6, v6), (8, v8), (10, v10), (49, v49), (13, .pointer (some ⟨yb, A, none⟩)), (14, .pointer (some ⟨yb, B, none⟩)), (15, .pointer (some ⟨yb, C, none⟩)), (16, .pointer (some ⟨yb, D, none⟩)), (48, v48), (66, .agg #[.int .i64 16, .int .i64 12, .int .i64 8, .int .i64 7]), (67, .int .i64 ((1 : Nat) : Int))]) (fun s => row 140 yb (s.map vU32) :: R) (fun t => t = qh A B C D 8 7 zs) Q) ⟨131, [(46, v46), (6, v6), (8, v8), (10, v10), (49, v49), (13, .pointer (some ⟨yb, A, none⟩)), (14, .pointer (some ⟨yb, B, none⟩)), (15, .pointer (some ⟨yb, C, none⟩)), (16, .pointer (some ⟨yb, D, none⟩)), (48, v48), (66, .agg #[.int .i64 16, .int .i64 12, .int .i64 8, .int .i64 7]), (67, .int .i64 ((1 : Nat) : Int))], g⟩ := by
  refine T.code ?_
  refine stp ?_
  refine stp ?_
  repeat' (first
    | (first | refine Vc.mk ⟨Lt32.h, Lt32.h⟩ ?_ | refine Vc.mk ⟨by decide, Lt32.h⟩ ?_ | refine Vc.mk (lt_ln (by first | decide | assumption)) ?_ | refine Vc.mk ⟨lt_ln (by first | decide | assumption), trivial⟩ ?_)
    | (refine T.atR 19 ?_; apply T.cutr 19 [(46, _), (6, _), (8, _), (10, _), (49, _), (13, _), (14, _), (15, _), (16, _), (48, _), (66, _), (67, _), (18, _)] zs (fun _ => []) (fun s : List Nat => [row 140 yb (s.map vU32)]) (by repeat' first | exact trivial | refine ⟨?_, ?_⟩ | (conv => lhs; whnf)); simp only [List.cons_append, List.nil_append, appR])
    | (refine T.atR 20 ?_; apply T.cutr 20 [(46, _), (6, _), (8, _), (10, _), (49, _), (13, _), (14, _), (15, _), (16, _), (48, _), (66, _), (67, _), (18, _)] z1 (fun _ => []) (fun s : List Nat => [row 140 yb (s.map vU32)]) (by repeat' first | exact trivial | refine ⟨?_, ?_⟩ | (conv => lhs; whnf)); simp only [List.cons_append, List.nil_append, appR])
    | (refine T.atR 21 ?_; apply T.cutr 21 [(46, _), (6, _), (8, _), (10, _), (49, _), (13, _), (14, _), (15, _), (16, _), (48, _), (66, _), (67, _), (18, _)] z2 (fun _ => []) (fun s : List Nat => [row 140 yb (s.map vU32)]) (by repeat' first | exact trivial | refine ⟨?_, ?_⟩ | (conv => lhs; whnf)); simp only [List.cons_append, List.nil_append, appR])
    | (refine TQ.atC ?_; refine TQ.cn _ rfl ⟨rfl, rfl, rfl, rfl, rfl, rfl, rfl, rfl, rfl, rfl, rfl, rfl, rfl, trivial⟩ rfl (Ent.imp (by repeat first | exact Imp.refl _ | (apply Imp.pull; focus ((repeat first | exact Del.head _ _ | apply Del.tail); done)) | apply Imp.drop)))
    | (first | (have _j := z2; clear _j; intro z3 g ez3; haveI : Ln z3 16 := (by rw [ez3]; infer_instance); haveI : B32 z3 := (by rw [ez3]; infer_instance); simp only [List.cons_append, List.nil_append, appR]) | (have _j := z1; clear _j; intro z2 g ez2; haveI : Ln z2 16 := (by rw [ez2]; infer_instance); haveI : B32 z2 := (by rw [ez2]; infer_instance); simp only [List.cons_append, List.nil_append, appR]) | (intro z1 g ez1; haveI : Ln z1 16 := (by rw [ez1]; infer_instance); haveI : B32 z1 := (by rw [ez1]; infer_instance); simp only [List.cons_append, List.nil_append, appR]))
    | (refine TQ.atC ?_; refine TQ.cn _ rfl ⟨rfl, rfl, rfl, rfl, rfl, rfl, rfl, rfl, rfl, rfl, rfl, rfl, trivial⟩ ?_ (Ent.imp (by repeat first | exact Imp.refl _ | (apply Imp.pull; focus ((repeat first | exact Del.head _ _ | apply Del.tail); done)) | apply Imp.drop)))
    | (rw [ez3, ez2, ez1]; rfl)
    | refine T.pl 15 [] (.p 0 (.p 3 (.p 6 (.p 9 (.d 1 (.p 2 (.p 12 (.d 4 (.p 5 (.p 13 (.d 7 (.p 8 (.p 14 (.d 10 (.p 11 (.p 15 .fin)))))))))))))))) ?_
    | refine T.pl 19 [8] (.p 0 (.p 1 (.p 3 (.p 4 (.d 2 (.d 5 (.p 6 (.p 7 (.n 8 .fin))))))))) ?_
    | refine T.pl 20 [10, 12] (.p 0 (.p 1 (.p 2 (.p 4 (.p 5 (.p 8 (.d 3 (.d 6 (.p 7 (.d 9 (.n 10 (.p 11 (.n 12 .fin))))))))))))) ?_
    | refine T.pl 21 [8] (.p 0 (.p 1 (.p 3 (.p 4 (.d 2 (.d 5 (.p 6 (.p 7 (.n 8 .fin))))))))) ?_
    | refine T.pl 22 [10, 12] (.p 0 (.p 1 (.p 2 (.p 4 (.p 5 (.p 8 (.d 3 (.d 6 (.p 7 (.d 9 (.n 10 (.p 11 (.n 12 .fin))))))))))))) ?_
    | refine T.pl 29 [11, 12] (.p 0 (.p 1 (.p 2 (.p 3 (.p 4 (.p 6 (.p 7 (.d 5 (.d 8 (.p 9 (.p 10 (.n 11 (.n 12 .fin))))))))))))) ?_
    | refine And.intro (fun hc => ?_) (fun hc => ?_)
    | refine And.intro ?_ ?_
    | intro b
    | refine stp ?_
    | refine TQ.finC ?_
    | refine TQ.finC2 ?_
    | refine TQ.finC3 ?_
    | refine ⟨fun hc => ?_, fun hc => ?_⟩
    | refine Ei.f ?_
    | refine ⟨?_, ?_⟩
    | intro b
    | omega
    | (dsimp only; omega)
    | fail)

end Go.Proofs.YthbpjjlinebooaaDoor


namespace Go.Proofs.YthbpjjlinebooaaDoor
open Go Pw
set_option maxRecDepth 20000
set_option maxHeartbeats 4000000
set_option maxHeartbeats 3000000

instance (priority := 2000) : RepL 16 [.int .u8 0] [.int .u8 0, .int .u8 0, .int .u8 0, .int .u8 0, .int .u8 0, .int .u8 0, .int .u8 0, .int .u8 0, .int .u8 0, .int .u8 0, .int .u8 0, .int .u8 0, .int .u8 0, .int .u8 0, .int .u8 0, .int .u8 0] := ⟨rfl⟩
instance (priority := 2000) : FilA (0 + 1) [.int .u8 0, .int .u8 0, .int .u8 0, .int .u8 0, .int .u8 0, .int .u8 0, .int .u8 0, .int .u8 0, .int .u8 0, .int .u8 0, .int .u8 0, .int .u8 0, .int .u8 0, .int .u8 0, .int .u8 0, .int .u8 0] [(0, .int .u8 101), (1, .int .u8 120), (2, .int .u8 112), (3, .int .u8 97), (4, .int .u8 110), (5, .int .u8 100), (6, .int .u8 32), (7, .int .u8 51), (8, .int .u8 50), (9, .int .u8 45), (10, .int .u8 98), (11, .int .u8 121), (12, .int .u8 116), (13, .int .u8 101), (14, .int .u8 32), (15, .int .u8 107)] [.int .u8 101, .int .u8 120, .int .u8 112, .int .u8 97, .int .u8 110, .int .u8 100, .int .u8 32, .int .u8 51, .int .u8 50, .int .u8 45, .int .u8 98, .int .u8 121, .int .u8 116, .int .u8 101, .int .u8 32, .int .u8 107] := ⟨rfl⟩
instance (priority := 2000) : BL [.int .u8 101, .int .u8 120, .int .u8 112, .int .u8 97, .int .u8 110, .int .u8 100, .int .u8 32, .int .u8 51, .int .u8 50, .int .u8 45, .int .u8 98, .int .u8 121, .int .u8 116, .int .u8 101, .int .u8 32, .int .u8 107] [UInt8.ofNat 101, UInt8.ofNat 120, UInt8.ofNat 112, UInt8.ofNat 97, UInt8.ofNat 110, UInt8.ofNat 100, UInt8.ofNat 32, UInt8.ofNat 51, UInt8.ofNat 50, UInt8.ofNat 45, UInt8.ofNat 98, UInt8.ofNat 121, UInt8.ofNat 116, UInt8.ofNat 101, UInt8.ofNat 32, UInt8.ofNat 107] True := ⟨fun _ => rfl⟩
/-- The table of quarters, as it was laid. -/
def quA : Assn := pt 0 (.cells (qsE.flatMap qf).toArray 150 (0, 0))
theorem D.entq {P : Program} {c : Ctx} {L L' : List Assn} {E : Env} {o : Oper} {v : Value} (h : Ent c L L') (hD : D P c L' E o v) : D P c L E o v := by
  unfold D at *
  exact ⟨hD.1, fun w hw => hD.2 w (h w hw)⟩
theorem qsE_fl : (List.flatMap qf qsE).length = 31 + 1 := by decide
instance {c : Ctx} {L R : List Assn} [hd : DelC quA L R] : Re Tryd.prog c L (.load 150 (.pointer (some ⟨0, 0, none⟩))) (fun k => k (.agg (qsE.flatMap qf).toArray)) := ⟨fun E d op ty pos af g hs k hk => by
  have h := Re.go (P := Tryd.prog) (c := c) (L := row 150 0 (qsE.flatMap qf) :: R) (ro := .load 150 (.pointer (some ⟨0, 0, none⟩))) E d op ty pos af g hs k (Vc.mk qsE_fl hk)
  obtain ⟨v, hD, hk'⟩ := h
  exact ⟨v, D.entq (Ent.trans (Ent.perm hd.h.perm) (fun w hw => ⟨hw.1, hw.2.1, hw.2.2.1, hw.2.2.2.imp fun f hf => row.mk hf⟩)) hD, hk'⟩⟩
structure Hold (p : Prop) : Prop where mk ::
  h : p
def magicE : List UInt8 := [UInt8.ofNat 101, UInt8.ofNat 120, UInt8.ofNat 112, UInt8.ofNat 97, UInt8.ofNat 110, UInt8.ofNat 100, UInt8.ofNat 32, UInt8.ofNat 51, UInt8.ofNat 50, UInt8.ofNat 45, UInt8.ofNat 98, UInt8.ofNat 121, UInt8.ofNat 116, UInt8.ofNat 101, UInt8.ofNat 32, UInt8.ofNat 107]
def textE (key nonce : List UInt8) (n : Nat) : List UInt8 := [UInt8.ofNat 101, UInt8.ofNat 120, UInt8.ofNat 112, UInt8.ofNat 97, UInt8.ofNat 110, UInt8.ofNat 100, UInt8.ofNat 32, UInt8.ofNat 51, UInt8.ofNat 50, UInt8.ofNat 45, UInt8.ofNat 98, UInt8.ofNat 121, UInt8.ofNat 116, UInt8.ofNat 101, UInt8.ofNat 32, UInt8.ofNat 107] ++ key ++ leB n 4 ++ nonce
theorem textE_len {key nonce : List UInt8} {n : Nat} (h1 : key.length = 32) (h2 : nonce.length = 12) : (textE key nonce n).length = 64 := by simp [textE, leB_len, h1, h2]
def outsE (xs ys : List Nat) : Nat → List UInt8
  | 0 => []
  | i + 1 => outsE xs ys i ++ leB ((gt xs i + gt ys i) % 4294967296) 4
theorem outsE_len (xs ys : List Nat) : ∀ i, (outsE xs ys i).length = 4 * i
  | 0 => rfl
  | i + 1 => by rw [outsE, List.length_append, outsE_len xs ys i, leB_len]; omega
theorem outs_0 {xs ys : List Nat} : List.replicate 64 (.int .u8 0) = (outsE xs ys 0 ++ List.replicate (64 - 4 * 0) 0).map byteV := by rw [outsE, List.nil_append, List.map_replicate]; rfl
theorem outs_put {xs ys : List Nat} {i : Nat} (h : i < 16) : putL (outsE xs ys i ++ List.replicate (64 - 4 * i) 0) (4 * i) (leB ((gt xs i + gt ys i) % 4294967296) 4) = outsE xs ys (i + 1) ++ List.replicate (64 - 4 * (i + 1)) 0 := by
  have h1 := outsE_len xs ys i
  rw [putL, leB_len, List.take_left' h1, outsE, List.drop_append, List.drop_of_length_le (by omega), h1, List.drop_replicate]
  simp; omega
def blockE (key nonce : List UInt8) (n : Nat) : List UInt8 := outsE (wordsE (textE key nonce n) 16 16) (rnds (wordsE (textE key nonce n) 16 16) 10) 16
theorem blockE_len (key nonce : List UInt8) (n : Nat) : (blockE key nonce n).length = 64 := outsE_len _ _ 16
instance {L : List Assn} {x n : Nat} {y z : Int} [hx : Nn y x] [hz : Nn z n] : FnR Tryd.prog 74 [.slice none 0 0, .int .u64 y, .int .i64 z] L (fun q => Vc (n ≤ 8 ∧ x < 18446744073709551616) (∀ a k, q (.slice a n k) (sl 5 1 (.slice a n k) n ((leB x n).map byteV) :: L))) :=
  ⟨fun q h => by
    obtain ⟨⟨h1, h2⟩, h4⟩ := h
    refine ⟨[], L, _, by rw [hx.h, hz.h]; exact Sat.ent (fun c R => Ent.nil) (bytes_spec [] none 0 x n h1 (by simp) h2), .nil _, fun v L' hq => ?_⟩
    obtain ⟨a, k, h5, h6⟩ := hq
    simp only [List.length_nil, Nat.zero_add, List.nil_append] at h5 h6
    rw [h5, h6]; exact h4 a k⟩

theorem wordsE_0 {l : List UInt8} : [.int .u32 0, .int .u32 0, .int .u32 0, .int .u32 0, .int .u32 0, .int .u32 0, .int .u32 0, .int .u32 0, .int .u32 0, .int .u32 0, .int .u32 0, .int .u32 0, .int .u32 0, .int .u32 0, .int .u32 0, .int .u32 0] = (wordsE l 16 0).map vU32 := rfl
theorem qrs_0 {ys : List Nat} : ys = qrs ys 0 := rfl
theorem rnds_0 {ys : List Nat} : ys = rnds ys 0 := rfl
theorem qrs_s {ys : List Nat} {i : Nat} : quart (gt qsE i) (qrs ys i) = qrs ys (i + 1) := rfl
theorem rnds_s {ys : List Nat} {i : Nat} : qrs (rnds ys i) 8 = rnds ys (i + 1) := rfl
theorem qsE_len : qsE.length = 8 := rfl
attribute [local irreducible] gt rotE leE wordsE qrs rnds textE outsE leB putL qsE
theorem block_spec (key nonce : List UInt8) (n : Nat) (h1 : key.length = 32) (h2 : nonce.length = 12) (hn : n < 4294967296) :
    Sat Tryd.prog 73 [str key, str nonce, .int .u32 n] [quA] (fun u L' => u = .agg ((blockE key nonce n).map byteV).toArray ∧ L' = [quA]) := by
  all_goals
    refine Sat.enter Tryd.func73 rfl Tryd.ntmps73 rfl (fun c R => ?_)
    try simp only [List.cons_append, List.nil_append]
    repeat' (first
      | (rename_i b6 bb a2 k2 a3 k3 a4 k4; refine T.osl ?_ (fun bt j rest e1 e2 hr hl => ?_); omega; subst e1 e2; refine T.lpa 0 [(6, _), (8, _), (7, _)] ((0, [.int .u32 0, .int .u32 0, .int .u32 0, .int .u32 0, .int .u32 0, .int .u32 0, .int .u32 0, .int .u32 0, .int .u32 0, .int .u32 0, .int .u32 0, .int .u32 0, .int .u32 0, .int .u32 0, .int .u32 0, .int .u32 0]) : Nat × List Value) (fun s => [(30, .int .i64 (s.1 : Nat))]) (fun s => [row 140 b s.2]) (fun s => s.1 ≤ 16 ∧ s.2 = (wordsE (textE key nonce n) 16 s.1).map vU32) (fun s => 16 - s.1) ⟨Nat.zero_le _, by exact wordsE_0⟩ ?_; rintro ⟨i, ys⟩ g ⟨hI, hy⟩; dsimp only at hI hy ⊢; subst hy; have hwl := wordsE_len (l := textE key nonce n) hI; have htl := textE_len (n := n) h1 h2; have e3 : [UInt8.ofNat 101, UInt8.ofNat 120, UInt8.ofNat 112, UInt8.ofNat 97, UInt8.ofNat 110, UInt8.ofNat 100, UInt8.ofNat 32, UInt8.ofNat 51, UInt8.ofNat 50, UInt8.ofNat 45, UInt8.ofNat 98, UInt8.ofNat 121, UInt8.ofNat 116, UInt8.ofNat 101, UInt8.ofNat 32, UInt8.ofNat 107] ++ key ++ leB n 4 ++ nonce = textE key nonce n := (by unfold textE; rfl); simp only [e3]; simp only [List.cons_append, List.nil_append, appR])
      | (refine Vc.mk (by first | (simp only [true_and, and_true, List.length_append, List.length_cons, List.length_nil, List.length_map, leB_len, List.length_drop, List.length_take, List.length_replicate, outsE_len]; done) | (simp only [true_and, and_true, List.length_append, List.length_cons, List.length_nil, List.length_map, leB_len, List.length_drop, List.length_take, List.length_replicate, outsE_len]; omega) | (simp only [true_and, and_true, List.length_append, List.length_cons, List.length_nil, List.length_map, leB_len, List.length_drop, List.length_take, List.length_replicate, outsE_len, h1, h2]; first | done | omega) | (simp only [true_and, and_true, List.length_append, List.length_cons, List.length_nil, List.length_map, leB_len, List.length_drop, List.length_take, List.length_replicate, outsE_len, hwl, htl]; first | done | omega)) ?_)
      | (refine TQ.rd (i + 1, _) rfl ⟨rfl, rfl, rfl, rfl, trivial⟩ ?_ ?_ (Ent.imp (by repeat first | exact Imp.refl _ | (apply Imp.pull; focus ((repeat first | exact Del.head _ _ | apply Del.tail); done)) | apply Imp.drop)); rotate_left)
      | (dsimp only; rw [show 4 * i + 4 - 4 * i = 4 by omega, show 4 * i * (0 + 1) = 4 * i by omega]; exact congrArg (List.map vU32) (wordsE_set hc))
      | (refine T.atB 2 ?_; rename_i bx; obtain ⟨yb, hyb⟩ : ∃ yb, yb = b := ⟨_, rfl⟩; subst hyb; have hi16 : i = 16 := (by omega); subst hi16; haveI : Ln (wordsE (textE key nonce n) 16 16) 16 := ⟨hwl⟩; haveI : B32 (wordsE (textE key nonce n) 16 16) := wordsE_B32; refine T.lpa 2 [(6, _), (8, _), (10, _)] ((0, wordsE (textE key nonce n) 16 16) : Nat × List Nat) (fun s => [(46, .int .i64 (s.1 : Nat))]) (fun s => [row 140 yb (s.2.map vU32)]) (fun s => s.1 ≤ 10 ∧ s.2 = rnds (wordsE (textE key nonce n) 16 16) s.1) (fun s => 10 - s.1) ⟨Nat.zero_le _, by exact rnds_0⟩ ?_; rintro ⟨i2, ys⟩ g ⟨hI2, hy⟩; dsimp only at hI2 hy ⊢; haveI : Ln ys 16 := (by rw [hy]; infer_instance); haveI : B32 ys := (by rw [hy]; infer_instance); simp only [List.cons_append, List.nil_append, appR]; refine Hold.h ?_)
      | refine T.pl 15 [] (.p 0 (.p 3 (.p 6 (.p 9 (.d 1 (.p 2 (.p 12 (.d 4 (.p 5 (.p 13 (.d 7 (.p 8 (.p 14 (.d 10 (.p 11 (.p 15 .fin)))))))))))))))) ?_
      | refine T.pl 19 [8] (.p 0 (.p 1 (.p 3 (.p 4 (.d 2 (.d 5 (.p 6 (.p 7 (.n 8 .fin))))))))) ?_
      | refine T.pl 20 [10, 12] (.p 0 (.p 1 (.p 2 (.p 4 (.p 5 (.p 8 (.d 3 (.d 6 (.p 7 (.d 9 (.n 10 (.p 11 (.n 12 .fin))))))))))))) ?_
      | refine T.pl 21 [8] (.p 0 (.p 1 (.p 3 (.p 4 (.d 2 (.d 5 (.p 6 (.p 7 (.n 8 .fin))))))))) ?_
      | refine T.pl 22 [10, 12] (.p 0 (.p 1 (.p 2 (.p 4 (.p 5 (.p 8 (.d 3 (.d 6 (.p 7 (.d 9 (.n 10 (.p 11 (.n 12 .fin))))))))))))) ?_
      | refine T.pl 29 [11, 12] (.p 0 (.p 1 (.p 2 (.p 3 (.p 4 (.p 6 (.p 7 (.d 5 (.d 8 (.p 9 (.p 10 (.n 11 (.n 12 .fin))))))))))))) ?_
      | refine And.intro (fun hc => ?_) (fun hc => ?_)
      | refine And.intro ?_ ?_
      | intro b
      | refine stp ?_
      | refine TQ.finC ?_
      | refine TQ.finC2 ?_
      | refine TQ.finC3 ?_
      | refine ⟨fun hc => ?_, fun hc => ?_⟩
      | refine Ei.f ?_
      | refine ⟨?_, ?_⟩
      | intro b
      | omega
      | (dsimp only; omega)
      |  fail)
    all_goals try refine Hold.mk ?_
    repeat' (first
      | (refine T.atB 4 ?_; refine T.lpa 4 [(46, _), (6, _), (8, _), (10, _), (48, _)] ((0, ys) : Nat × List Nat) (fun s => [(49, .int .i64 (s.1 : Nat))]) (fun s => [row 140 yb (s.2.map vU32)]) (fun s => s.1 ≤ 8 ∧ s.2 = qrs ys s.1) (fun s => 8 - s.1) ⟨Nat.zero_le _, by exact qrs_0⟩ ?_; rintro ⟨i3, zs⟩ g ⟨hI3, hz⟩; dsimp only at hI3 hz ⊢; haveI : Ln zs 16 := (by rw [hz]; infer_instance); haveI : B32 zs := (by rw [hz]; infer_instance); simp only [List.cons_append, List.nil_append, appR]; obtain ⟨q1, q2, q3, q4⟩ := qs_lt i3; refine Hold.h ?_)
      | (refine T.atB 8 ?_; rename_i b8; have hi10 : i2 = 10 := (by omega); subst hi10; refine T.lpa 8 [(6, _), (8, _), (10, _)] ((0, List.replicate 64 (.int .u8 0)) : Nat × List Value) (fun s => [(113, .int .i64 (s.1 : Nat))]) (fun s => [row 127 b6 s.2]) (fun s => s.1 ≤ 16 ∧ s.2 = (outsE (wordsE (textE key nonce n) 16 16) ys s.1 ++ List.replicate (64 - 4 * s.1) 0).map byteV) (fun s => 16 - s.1) ⟨Nat.zero_le _, by exact outs_0⟩ ?_; rintro ⟨i4, bs⟩ g ⟨hI4, hb⟩; dsimp only at hI4 hb ⊢; subst hb; simp only [List.cons_append, List.nil_append, appR]; refine Hold.h ?_)
      | (refine Vc.mk (by first | (simp only [true_and, and_true, List.length_append, List.length_cons, List.length_nil, List.length_map, leB_len, List.length_drop, List.length_take, List.length_replicate, outsE_len]; done) | (simp only [true_and, and_true, List.length_append, List.length_cons, List.length_nil, List.length_map, leB_len, List.length_drop, List.length_take, List.length_replicate, outsE_len]; omega) | (simp only [true_and, and_true, List.length_append, List.length_cons, List.length_nil, List.length_map, leB_len, List.length_drop, List.length_take, List.length_replicate, outsE_len, h1, h2]; first | done | omega) | (simp only [true_and, and_true, List.length_append, List.length_cons, List.length_nil, List.length_map, leB_len, List.length_drop, List.length_take, List.length_replicate, outsE_len, hwl, htl]; first | done | omega)) ?_)
      | refine T.pl 15 [] (.p 0 (.p 3 (.p 6 (.p 9 (.d 1 (.p 2 (.p 12 (.d 4 (.p 5 (.p 13 (.d 7 (.p 8 (.p 14 (.d 10 (.p 11 (.p 15 .fin)))))))))))))))) ?_
      | refine T.pl 19 [8] (.p 0 (.p 1 (.p 3 (.p 4 (.d 2 (.d 5 (.p 6 (.p 7 (.n 8 .fin))))))))) ?_
      | refine T.pl 20 [10, 12] (.p 0 (.p 1 (.p 2 (.p 4 (.p 5 (.p 8 (.d 3 (.d 6 (.p 7 (.d 9 (.n 10 (.p 11 (.n 12 .fin))))))))))))) ?_
      | refine T.pl 21 [8] (.p 0 (.p 1 (.p 3 (.p 4 (.d 2 (.d 5 (.p 6 (.p 7 (.n 8 .fin))))))))) ?_
      | refine T.pl 22 [10, 12] (.p 0 (.p 1 (.p 2 (.p 4 (.p 5 (.p 8 (.d 3 (.d 6 (.p 7 (.d 9 (.n 10 (.p 11 (.n 12 .fin))))))))))))) ?_
      | refine T.pl 29 [11, 12] (.p 0 (.p 1 (.p 2 (.p 3 (.p 4 (.p 6 (.p 7 (.d 5 (.d 8 (.p 9 (.p 10 (.n 11 (.n 12 .fin))))))))))))) ?_
      | refine And.intro (fun hc => ?_) (fun hc => ?_)
      | refine And.intro ?_ ?_
      | intro b
      | refine stp ?_
      | refine TQ.finC ?_
      | refine TQ.finC2 ?_
      | refine TQ.finC3 ?_
      | refine ⟨fun hc => ?_, fun hc => ?_⟩
      | refine Ei.f ?_
      | refine ⟨?_, ?_⟩
      | intro b
      | omega
      | (dsimp only; omega)
      |  fail)
    all_goals try refine Hold.mk ?_
    repeat' (first
      | (first | refine Vc.mk ⟨Lt32.h, Lt32.h⟩ ?_ | refine Vc.mk ⟨by decide, Lt32.h⟩ ?_ | refine Vc.mk (lt_ln (by first | decide | assumption)) ?_ | refine Vc.mk ⟨lt_ln (by first | decide | assumption), trivial⟩ ?_)
      | (refine Vc.mk (by first | (simp only [true_and, and_true, List.length_append, List.length_cons, List.length_nil, List.length_map, leB_len, List.length_drop, List.length_take, List.length_replicate, outsE_len]; done) | (simp only [true_and, and_true, List.length_append, List.length_cons, List.length_nil, List.length_map, leB_len, List.length_drop, List.length_take, List.length_replicate, outsE_len]; omega) | (simp only [true_and, and_true, List.length_append, List.length_cons, List.length_nil, List.length_map, leB_len, List.length_drop, List.length_take, List.length_replicate, outsE_len, h1, h2]; first | done | omega) | (simp only [true_and, and_true, List.length_append, List.length_cons, List.length_nil, List.length_map, leB_len, List.length_drop, List.length_take, List.length_replicate, outsE_len, hwl, htl]; first | done | omega)) ?_)
      | exact qsE_fl
      | (rw [qsE_len]; exact hc)
      | (refine TQ.rd (i4 + 1, _) rfl ⟨rfl, rfl, rfl, rfl, trivial⟩ ⟨by omega, ?_⟩ (by dsimp only; omega) (Ent.imp (by repeat first | exact Imp.refl _ | (apply Imp.pull; focus ((repeat first | exact Del.head _ _ | apply Del.tail); done)) | apply Imp.drop)))
      | (dsimp only; rw [show 4 * i4 * (0 + 1) = 4 * i4 by omega]; exact congrArg (List.map byteV) (outs_put (by omega)))
      | (refine TQ.rd (i2 + 1, _) rfl ⟨rfl, rfl, rfl, rfl, trivial⟩ ⟨by omega, ?_⟩ (by dsimp only; omega) (Ent.imp (by repeat first | exact Imp.refl _ | (apply Imp.pull; focus ((repeat first | exact Del.head _ _ | apply Del.tail); done)) | apply Imp.drop)))
      | (dsimp only; have hi8 : i3 = 8 := (by omega); rw [hz, hi8, hy]; exact rnds_s)
      | (have e16 : i4 = 16 := (by omega); subst e16; exact Fini.mk ⟨by rw [hy]; simp [blockE], rfl⟩)
      | (refine T.atB 6 ?_; refine T.unb 6 2 ?_; refine Hold.h ?_)
      | refine T.pl 15 [] (.p 0 (.p 3 (.p 6 (.p 9 (.d 1 (.p 2 (.p 12 (.d 4 (.p 5 (.p 13 (.d 7 (.p 8 (.p 14 (.d 10 (.p 11 (.p 15 .fin)))))))))))))))) ?_
      | refine T.pl 19 [8] (.p 0 (.p 1 (.p 3 (.p 4 (.d 2 (.d 5 (.p 6 (.p 7 (.n 8 .fin))))))))) ?_
      | refine T.pl 20 [10, 12] (.p 0 (.p 1 (.p 2 (.p 4 (.p 5 (.p 8 (.d 3 (.d 6 (.p 7 (.d 9 (.n 10 (.p 11 (.n 12 .fin))))))))))))) ?_
      | refine T.pl 21 [8] (.p 0 (.p 1 (.p 3 (.p 4 (.d 2 (.d 5 (.p 6 (.p 7 (.n 8 .fin))))))))) ?_
      | refine T.pl 22 [10, 12] (.p 0 (.p 1 (.p 2 (.p 4 (.p 5 (.p 8 (.d 3 (.d 6 (.p 7 (.d 9 (.n 10 (.p 11 (.n 12 .fin))))))))))))) ?_
      | refine T.pl 29 [11, 12] (.p 0 (.p 1 (.p 2 (.p 3 (.p 4 (.p 6 (.p 7 (.d 5 (.d 8 (.p 9 (.p 10 (.n 11 (.n 12 .fin))))))))))))) ?_
      | refine And.intro (fun hc => ?_) (fun hc => ?_)
      | refine And.intro ?_ ?_
      | intro b
      | refine stp ?_
      | refine TQ.finC ?_
      | refine TQ.finC2 ?_
      | refine TQ.finC3 ?_
      | refine ⟨fun hc => ?_, fun hc => ?_⟩
      | refine Ei.f ?_
      | refine ⟨?_, ?_⟩
      | intro b
      | omega
      | (dsimp only; omega)
      |  fail)
    all_goals try refine Hold.mk ?_
    repeat' (first
      | (first | refine Vc.mk ⟨Lt32.h, Lt32.h⟩ ?_ | refine Vc.mk ⟨by decide, Lt32.h⟩ ?_ | refine Vc.mk (lt_ln (by first | decide | assumption)) ?_ | refine Vc.mk ⟨lt_ln (by first | decide | assumption), trivial⟩ ?_)
      | (refine T.atB 7 ?_; refine T.useB 7 (fun g => half_1 (yb := yb) (A := (gt qsE i3).1) (B := (gt qsE i3).2.1) (C := (gt qsE i3).2.2.1) (D := (gt qsE i3).2.2.2) z1 q1 q2 q3 q4) (fun z2 g e2 => ?_); haveI : Ln z2 16 := (by rw [e2]; infer_instance); haveI : B32 z2 := (by rw [e2]; infer_instance))
      | (refine T.atB 7 ?_; refine T.useB 7 (fun g => half_0 (yb := yb) (A := (gt qsE i3).1) (B := (gt qsE i3).2.1) (C := (gt qsE i3).2.2.1) (D := (gt qsE i3).2.2.2) zs q1 q2 q3 q4) (fun z1 g e1 => ?_); haveI : Ln z1 16 := (by rw [e1]; infer_instance); haveI : B32 z1 := (by rw [e1]; infer_instance))
      | (refine TQ.rd (i3 + 1, _) rfl ⟨rfl, rfl, rfl, rfl, rfl, rfl, trivial⟩ ⟨by omega, ?_⟩ (by dsimp only; omega) (Ent.imp (by repeat first | exact Imp.refl _ | (apply Imp.pull; focus ((repeat first | exact Del.head _ _ | apply Del.tail); done)) | apply Imp.drop)))
      | (show z2 = _; rw [e2, e1, hz]; exact qrs_s)
      | refine T.pl 15 [] (.p 0 (.p 3 (.p 6 (.p 9 (.d 1 (.p 2 (.p 12 (.d 4 (.p 5 (.p 13 (.d 7 (.p 8 (.p 14 (.d 10 (.p 11 (.p 15 .fin)))))))))))))))) ?_
      | refine T.pl 19 [8] (.p 0 (.p 1 (.p 3 (.p 4 (.d 2 (.d 5 (.p 6 (.p 7 (.n 8 .fin))))))))) ?_
      | refine T.pl 20 [10, 12] (.p 0 (.p 1 (.p 2 (.p 4 (.p 5 (.p 8 (.d 3 (.d 6 (.p 7 (.d 9 (.n 10 (.p 11 (.n 12 .fin))))))))))))) ?_
      | refine T.pl 21 [8] (.p 0 (.p 1 (.p 3 (.p 4 (.d 2 (.d 5 (.p 6 (.p 7 (.n 8 .fin))))))))) ?_
      | refine T.pl 22 [10, 12] (.p 0 (.p 1 (.p 2 (.p 4 (.p 5 (.p 8 (.d 3 (.d 6 (.p 7 (.d 9 (.n 10 (.p 11 (.n 12 .fin))))))))))))) ?_
      | refine T.pl 29 [11, 12] (.p 0 (.p 1 (.p 2 (.p 3 (.p 4 (.p 6 (.p 7 (.d 5 (.d 8 (.p 9 (.p 10 (.n 11 (.n 12 .fin))))))))))))) ?_
      | refine And.intro (fun hc => ?_) (fun hc => ?_)
      | refine And.intro ?_ ?_
      | intro b
      | refine stp ?_
      | refine TQ.finC ?_
      | refine TQ.finC2 ?_
      | refine TQ.finC3 ?_
      | refine ⟨fun hc => ?_, fun hc => ?_⟩
      | refine Ei.f ?_
      | refine ⟨?_, ?_⟩
      | intro b
      | omega
      | (dsimp only; omega)
      | fail)
attribute [irreducible] blockE

end Go.Proofs.YthbpjjlinebooaaDoor


namespace Go.Proofs.YthbpjjlinebooaaDoor
open Go Pw
set_option maxRecDepth 20000
set_option maxHeartbeats 4000000
set_option maxHeartbeats 200000
instance {L : List Assn} {R : List Assn} {key nonce : List UInt8} {y : Int} {n : Nat} [hy : Nn y n] [hd : DelC quA L R] : FnR Tryd.prog 73 [str key, str nonce, .int .u32 y] L (fun q => Vc (key.length = 32 ∧ nonce.length = 12 ∧ n < 4294967296) (q (.agg ((blockE key nonce n).map byteV).toArray) (quA :: R))) := ⟨fun q h => ⟨_, R, _, by rw [hy.h]; exact block_spec key nonce n h.l.1 h.l.2.1 h.l.2.2, Pick.of1 hd.h, fun v L' hq => by rw [hq.1, hq.2]; exact h.r⟩⟩

/-- A block, or that it may not be. -/
def BlockE (key nonce : List UInt8) (n : Nat) : List UInt8 × Nat := if key.length = 32 ∧ nonce.length = 12 then (blockE key nonce n, 0) else ([], 2)
theorem mayF {p : Prop} [Decidable p] (h : (!decide p) = true) : ¬ p := by intro hp; simp [hp] at h
theorem mayT {p : Prop} [Decidable p] (h : (!decide p) = false) : p := by
  by_cases hp : p
  · exact hp
  · simp [hp] at h
theorem word_spec (p i : Nat) (key : List UInt8) (hk : key.length = 32) (hi : i < 4) :
    Sat Tryd.prog 92 [.int .i64 i, .pointer (some ⟨p, 0, none⟩)] [row 9 p [str key]] (fun u L' => u = .int .u64 (leE ((key.drop (8 * i)).take 8) : Nat) ∧ L' = [row 9 p [str key]]) := by
  all_goals
    refine Sat.enter Tryd.func92 rfl Tryd.ntmps92 rfl (fun c R => ?_)
    try simp only [List.cons_append, List.nil_append]
    repeat' (first
      | (refine Vc.mk (by simp only [List.length_drop, List.length_take]; omega) ?_)
      | (exact Fini.mk ⟨by rw [List.drop_take, show 8 * i + 8 - 8 * i = 8 by omega]; rfl, rfl⟩)
      | refine And.intro (fun hc => ?_) (fun hc => ?_)
      | refine And.intro ?_ ?_
      | intro b
      | refine stp ?_
      | refine TQ.finC ?_
      | refine TQ.finC2 ?_
      | refine TQ.finC3 ?_
      | refine ⟨fun hc => ?_, fun hc => ?_⟩
      | refine Ei.f ?_
      | refine ⟨?_, ?_⟩
      | intro b
      | omega
      | (dsimp only; omega)
      | fail)

def xorE (a b : List UInt8) : Nat → Nat
  | 0 => 0
  | i + 1 => xorE a b i ||| ((gt a i).toNat ^^^ (gt b i).toNat)
theorem xorE_lt (a b : List UInt8) : ∀ i, xorE a b i < 256
  | 0 => Nat.zero_lt_succ _
  | i + 1 => Nat.or_lt_two_pow (n := 8) (xorE_lt a b i) (Nat.xor_lt_two_pow (n := 8) (UInt8.toNat_lt _) (UInt8.toNat_lt _))
theorem or_z {x y : Nat} : x ||| y = 0 ↔ x = 0 ∧ y = 0 := by
  constructor
  · intro h
    exact ⟨Nat.eq_of_testBit_eq fun i => by have := congrArg (Nat.testBit · i) h; simp at this; simp [this.1], Nat.eq_of_testBit_eq fun i => by have := congrArg (Nat.testBit · i) h; simp at this; simp [this.2]⟩
  · rintro ⟨rfl, rfl⟩; rfl
theorem xor_z {x y : Nat} : x ^^^ y = 0 ↔ x = y := by
  constructor
  · intro h
    exact Nat.eq_of_testBit_eq fun i => by have := congrArg (Nat.testBit · i) h; simp at this; exact this
  · rintro rfl; exact Nat.xor_self _
theorem xorE_z {a b : List UInt8} : ∀ i, xorE a b i = 0 ↔ ∀ j < i, gt a j = gt b j
  | 0 => by simp [xorE]
  | i + 1 => by
    rw [xorE, or_z, xor_z, xorE_z i]
    constructor
    · rintro ⟨h1, h2⟩ j hj
      by_cases e : j = i
      · subst e; exact UInt8.toNat_inj.1 h2
      · exact h1 j (by omega)
    · intro h
      exact ⟨fun j hj => h j (by omega), by rw [h i (by omega)]⟩
theorem gt_ext {a b : List UInt8} (h : a.length = b.length) : (∀ j < a.length, gt a j = gt b j) ↔ a = b := by
  constructor
  · intro hh
    apply List.ext_getElem h
    intro i h1 h2
    have := hh i h1
    unfold gt at this
    simpa [List.getD_eq_getElem?_getD, h1, h2] using this
  · rintro rfl _ _; rfl
theorem Same_spec (a b : List UInt8) (ha : a.length < 4294967296) :
    Sat Tryd.prog 62 [str a, str b] [] (fun u L' => u = .bool (decide (a = b)) ∧ L' = []) := by
  all_goals
    refine Sat.enter Tryd.func62 rfl Tryd.ntmps62 rfl (fun c R => ?_)
    try simp only [List.cons_append, List.nil_append]
    repeat' (first
      | (refine T.atB 0 ?_; refine T.lpa 0 [(0, _), (1, _), (13, _)] (0 : Nat) (fun i => [(5, .int .u8 (xorE a b i : Nat)), (14, .int .i64 (i : Nat))]) (fun _ => []) (fun i => i ≤ a.length) (fun i => a.length - i) (Nat.zero_le _) ?_; intro i g hI; have hx8 := xorE_lt a b i; have hy8 : (gt a i).toNat ^^^ (gt b i).toNat < 256 := Nat.xor_lt_two_pow (n := 8) (UInt8.toNat_lt _) (UInt8.toNat_lt _); simp only [List.cons_append, List.nil_append, appR])
      | refine TQ.rda (i + 1) ?_ ?_ rfl ⟨rfl, rfl, rfl, rfl, rfl, trivial⟩
      | (have hl : a.length = b.length := Decidable.not_not.1 ‹¬ a.length ≠ b.length›; obtain rfl : i = a.length := (by omega); exact Fini.mk ⟨congrArg Value.bool (decide_eq_decide.2 ((xorE_z _).trans (gt_ext hl))), rfl⟩)
      | exact Fini.mk ⟨by simp [asResult]; intro e; subst e; exact absurd rfl ‹_›, rfl⟩
      | refine T.pl 7 [] (.p 0 (.p 1 (.p 2 (.p 3 (.p 4 (.p 5 (.p 6 (.p 7 (.p 8 (.p 9 .fin)))))))))) ?_
      | refine And.intro (fun hc => ?_) (fun hc => ?_)
      | refine And.intro ?_ ?_
      | intro b
      | refine stp ?_
      | refine TQ.finC ?_
      | refine TQ.finC2 ?_
      | refine TQ.finC3 ?_
      | refine ⟨fun hc => ?_, fun hc => ?_⟩
      | refine Ei.f ?_
      | refine ⟨?_, ?_⟩
      | intro b
      | omega
      | (dsimp only; omega)
      | fail)

end Go.Proofs.YthbpjjlinebooaaDoor


namespace Go.Proofs.YthbpjjlinebooaaDoor
open Go Pw
set_option maxRecDepth 20000
set_option maxHeartbeats 4000000
set_option maxHeartbeats 400000
theorem chunk64_spec {c : Ctx} {l : Nat} {o : Loop} (b n cap bs bn : Nat) (H : Nat → List Assn) (hn : n < 4294967296) (hcap : n ≤ cap) (ho : o.params.size = 1) (h2 : o.state = .ready) (h3 : o.pending = none)
    (hy : ∀ j, 64 * j < n → Yl Tryd.prog c l o [.slice (some ⟨b, 64 * j, none⟩) (min 64 (n - 64 * j)) (min 64 (n - 64 * j))] (H j) (fun L1 => L1 = H (j + 1))) :
    SatC Tryd.prog c 67 [.func (.yield l) #[] #[], .pointer (some ⟨bs, 0, none⟩), .pointer (some ⟨bn, 0, none⟩)] (pt l (.loop o) :: row 42 bs [.slice (some ⟨b, 0, none⟩) n cap] :: row 3 bn [.int .i64 64] :: H 0) (fun _ L' => L' = pt l (.loop o) :: row 42 bs [.slice (some ⟨b, 0, none⟩) n cap] :: row 3 bn [.int .i64 64] :: H ((n + 63) / 64)) := by
  refine SatC.enter Tryd.func67 rfl Tryd.ntmps67 rfl (fun R => ?_)
  simp only [List.cons_append, List.nil_append]
  repeat' (first
    | (refine T.atB 0 ?_; refine T.lp 0 [(0, _), (1, _), (2, _)] (0 : Nat) (fun j => [(4, .int .i64 ((64 * j : Nat) : Int))]) (fun j => pt l (.loop o) :: row 42 bs [.slice (some ⟨b, 0, none⟩) n cap] :: row 3 bn [.int .i64 64] :: (H j ++ R)) (fun j => 64 * j ≤ n + 63) (fun j => n + 64 - 64 * j) (by repeat' first | exact trivial | refine ⟨?_, ?_⟩ | (conv => lhs; whnf)) ⟨rfl, trivial⟩ (by omega) (Ent.refl _ _) ?_; intro j g hI; simp only [List.cons_append, List.nil_append, appR])
    | (refine TQ.rd (j + 1) rfl ⟨by rw [Nat.mul_succ]; rfl, rfl, rfl, rfl, trivial⟩ (by omega) (by omega) (Ent.refl _ _))
    | (have ej : j = (n + 63) / 64 := (by omega); subst ej; exact Fini.mk (L' := pt l (.loop o) :: row 42 bs [.slice (some ⟨b, 0, none⟩) n cap] :: row 3 bn [.int .i64 64] :: H ((n + 63) / 64)) rfl)
    | refine T.pl 3 [] (.p 2 (.d 0 (.d 1 (.p 3 (.p 4 (.p 5 (.p 6 .fin))))))) ?_
    | refine And.intro (fun hc => ?_) (fun hc => ?_)
    | refine And.intro ?_ ?_
    | intro b
    | refine stp ?_
    | refine TQ.finC ?_
    | refine TQ.finC2 ?_
    | refine TQ.finC3 ?_
    | refine ⟨fun hc => ?_, fun hc => ?_⟩
    | refine Ei.f ?_
    | refine ⟨?_, ?_⟩
    | intro b
    | omega
    | (dsimp only; omega)
    | (dsimp only; refine TO.yl (hy j ‹_›) ?_ ho.symm h2 h3 ?_; rotate_left; rintro L1 rfl)
    | (rw [show 64 * j * (0 + 1) = 64 * j by omega, show 64 * j + min 64 (n - 64 * j) - 64 * j = min 64 (n - 64 * j) by omega])
    | fail)
theorem chunk16_spec {c : Ctx} {l : Nat} {o : Loop} (b n cap bs bn : Nat) (H : Nat → List Assn) (hn : n < 4294967296) (hcap : n ≤ cap) (ho : o.params.size = 1) (h2 : o.state = .ready) (h3 : o.pending = none)
    (hy : ∀ j, 16 * j < n → Yl Tryd.prog c l o [.slice (some ⟨b, 16 * j, none⟩) (min 16 (n - 16 * j)) (min 16 (n - 16 * j))] (H j) (fun L1 => L1 = H (j + 1))) :
    SatC Tryd.prog c 67 [.func (.yield l) #[] #[], .pointer (some ⟨bs, 0, none⟩), .pointer (some ⟨bn, 0, none⟩)] (pt l (.loop o) :: row 42 bs [.slice (some ⟨b, 0, none⟩) n cap] :: row 3 bn [.int .i64 16] :: H 0) (fun _ L' => L' = pt l (.loop o) :: row 42 bs [.slice (some ⟨b, 0, none⟩) n cap] :: row 3 bn [.int .i64 16] :: H ((n + 15) / 16)) := by
  refine SatC.enter Tryd.func67 rfl Tryd.ntmps67 rfl (fun R => ?_)
  simp only [List.cons_append, List.nil_append]
  repeat' (first
    | (refine T.atB 0 ?_; refine T.lp 0 [(0, _), (1, _), (2, _)] (0 : Nat) (fun j => [(4, .int .i64 ((16 * j : Nat) : Int))]) (fun j => pt l (.loop o) :: row 42 bs [.slice (some ⟨b, 0, none⟩) n cap] :: row 3 bn [.int .i64 16] :: (H j ++ R)) (fun j => 16 * j ≤ n + 15) (fun j => n + 16 - 16 * j) (by repeat' first | exact trivial | refine ⟨?_, ?_⟩ | (conv => lhs; whnf)) ⟨rfl, trivial⟩ (by omega) (Ent.refl _ _) ?_; intro j g hI; simp only [List.cons_append, List.nil_append, appR])
    | (refine TQ.rd (j + 1) rfl ⟨by rw [Nat.mul_succ]; rfl, rfl, rfl, rfl, trivial⟩ (by omega) (by omega) (Ent.refl _ _))
    | (have ej : j = (n + 15) / 16 := (by omega); subst ej; exact Fini.mk (L' := pt l (.loop o) :: row 42 bs [.slice (some ⟨b, 0, none⟩) n cap] :: row 3 bn [.int .i64 16] :: H ((n + 15) / 16)) rfl)
    | refine T.pl 3 [] (.p 2 (.d 0 (.d 1 (.p 3 (.p 4 (.p 5 (.p 6 .fin))))))) ?_
    | refine And.intro (fun hc => ?_) (fun hc => ?_)
    | refine And.intro ?_ ?_
    | intro b
    | refine stp ?_
    | refine TQ.finC ?_
    | refine TQ.finC2 ?_
    | refine TQ.finC3 ?_
    | refine ⟨fun hc => ?_, fun hc => ?_⟩
    | refine Ei.f ?_
    | refine ⟨?_, ?_⟩
    | intro b
    | omega
    | (dsimp only; omega)
    | (dsimp only; refine TO.yl (hy j ‹_›) ?_ ho.symm h2 h3 ?_; rotate_left; rintro L1 rfl)
    | (rw [show 16 * j * (0 + 1) = 16 * j by omega, show 16 * j + min 16 (n - 16 * j) - 16 * j = min 16 (n - 16 * j) by omega])
    | fail)

end Go.Proofs.YthbpjjlinebooaaDoor


namespace Go.Proofs.YthbpjjlinebooaaDoor
open Go Pw
set_option maxRecDepth 20000
set_option maxHeartbeats 4000000
set_option maxHeartbeats 400000

/-- The byte that a byte is turned by. -/
def ksE (key nonce : List UInt8) (p : Nat) : UInt8 := gt (blockE key nonce (1 + p / 64)) (p % 64)
/-- A text whose first bytes are turned. -/
def turnP (key nonce s : List UInt8) (i : Nat) : List UInt8 := (List.range s.length).map fun p => if p < i then gt s p ^^^ ksE key nonce p else gt s p
def turnedE (key nonce s : List UInt8) : List UInt8 := turnP key nonce s s.length
theorem turnP_len (key nonce s : List UInt8) (i : Nat) : (turnP key nonce s i).length = s.length := by simp [turnP]
theorem turnedE_len (key nonce s : List UInt8) : (turnedE key nonce s).length = s.length := turnP_len _ _ _ _
theorem turnP_get {key nonce s : List UInt8} {i p : Nat} (h : p < s.length) : gt (turnP key nonce s i) p = if p < i then gt s p ^^^ ksE key nonce p else gt s p := by
  unfold turnP
  rw [gt, List.getD_eq_getElem?_getD, List.getElem?_map, List.getElem?_range h]; rfl
theorem turnP_0 {key nonce s : List UInt8} : turnP key nonce s 0 = s := (gt_ext (turnP_len _ _ _ _)).1 fun j hj => by
  rw [turnP_len] at hj
  rw [turnP_get hj, if_neg (by omega)]
theorem gt_set' {l : List UInt8} {i j : Nat} {x : UInt8} (hi : i < l.length) : gt (l.set i x) j = if i = j then x else gt l j := by
  unfold gt
  rw [List.getD_eq_getElem?_getD, List.getElem?_set, List.getD_eq_getElem?_getD]
  by_cases h : i = j
  · subst h; simp [hi]
  · simp [h]
theorem turnP_set {key nonce s : List UInt8} {i : Nat} (h : i < s.length) : (turnP key nonce s i).set i (gt s i ^^^ ksE key nonce i) = turnP key nonce s (i + 1) :=
  (gt_ext (by rw [List.length_set, turnP_len, turnP_len])).1 fun j hj => by
    rw [List.length_set, turnP_len] at hj
    rw [gt_set' (by rw [turnP_len]; exact h), turnP_get hj, turnP_get hj]
    by_cases e : i = j
    · subst e; rw [if_pos rfl, if_pos (by omega)]
    · rw [if_neg e]
      by_cases e2 : j < i
      · rw [if_pos e2, if_pos (by omega)]
      · rw [if_neg e2, if_neg (by omega)]
theorem turnP_ge {key nonce s : List UInt8} {i : Nat} (h : s.length ≤ i) : turnP key nonce s i = turnedE key nonce s :=
  (gt_ext (by rw [turnP_len, turnedE_len])).1 fun j hj => by
    rw [turnP_len] at hj
    rw [turnedE, turnP_get hj, turnP_get hj, if_pos (by omega), if_pos hj]
theorem Chunk_spec (b n cap k : Nat) (hk : 0 < k) (hk2 : k < 4294967296) :
    Sat Tryd.prog 48 [.slice (some ⟨b, 0, none⟩) n cap, .int .i64 k] [] (fun u L' => ∃ bs bn, u = .func (.func 67) #[] #[.pointer (some ⟨bs, 0, none⟩), .pointer (some ⟨bn, 0, none⟩)] ∧ L' = [row 42 bs [.slice (some ⟨b, 0, none⟩) n cap], row 3 bn [.int .i64 k]]) := by
  all_goals
    refine Sat.enter Tryd.func48 rfl Tryd.ntmps48 rfl (fun c R => ?_)
    try simp only [List.cons_append, List.nil_append]
    repeat' (first
      | exact Fini.mk ⟨_, _, rfl, rfl⟩
      | refine And.intro (fun hc => ?_) (fun hc => ?_)
      | refine And.intro ?_ ?_
      | intro b
      | refine stp ?_
      | refine TQ.finC ?_
      | refine TQ.finC2 ?_
      | refine TQ.finC3 ?_
      | refine ⟨fun hc => ?_, fun hc => ?_⟩
      | refine Ei.f ?_
      | refine ⟨?_, ?_⟩
      | intro b
      | omega
      | (dsimp only; omega)
      | fail)
instance {L : List Assn} {b n cap k : Nat} {z : Int} [hz : Nn z k] : FnR Tryd.prog 48 [.slice (some ⟨b, 0, none⟩) n cap, .int .i64 z] L (fun q => Vc (0 < k ∧ k < 4294967296) (∀ bs bn, q (.func (.func 67) #[] #[.pointer (some ⟨bs, 0, none⟩), .pointer (some ⟨bn, 0, none⟩)]) (row 42 bs [.slice (some ⟨b, 0, none⟩) n cap] :: row 3 bn [.int .i64 (k : Nat)] :: L))) :=
  ⟨fun q h => ⟨[], L, _, by rw [hz.h]; exact Chunk_spec b n cap k h.l.1 h.l.2, .nil _, fun v L' hq => by obtain ⟨bs, bn, e1, e2⟩ := hq; rw [e1, e2]; exact h.r bs bn⟩⟩

end Go.Proofs.YthbpjjlinebooaaDoor


namespace Go.Proofs.YthbpjjlinebooaaDoor
open Go Pw
set_option maxRecDepth 20000
set_option maxHeartbeats 4000000
set_option maxHeartbeats 400000
theorem ksE_at {key nonce : List UInt8} {j i : Nat} (h : i < 64) : ksE key nonce (64 * j + i) = gt (blockE key nonce (j + 1)) i := by
  unfold ksE
  rw [show 1 + (64 * j + i) / 64 = j + 1 by omega, show (64 * j + i) % 64 = i by omega]
theorem turnP_end {key nonce tx : List UInt8} {j m : Nat} (hm : m = min 64 (tx.length - 64 * j)) (hj : 64 * j < tx.length) : turnP key nonce tx (64 * j + m) = turnP key nonce tx (64 * (j + 1)) := by
  by_cases h : 64 ≤ tx.length - 64 * j
  · rw [show 64 * j + m = 64 * (j + 1) by omega]
  · rw [turnP_ge (by omega), turnP_ge (by omega)]

theorem turned_round {c : Ctx} {R : List Assn} {l : Nat} {o : Loop} {g : Nat → Value} (yb b8 b3 b4 j : Nat) (key nonce tx : List UInt8) (rest : List Value) (h1 : key.length = 32) (h2 : nonce.length = 12) (hn : tx.length < 4294967296) (hj : 64 * j < tx.length) :
    T Tryd.prog ⟨some l, []⟩ c (pt l (.loop (busy o)) :: row 5 yb ((turnP key nonce tx (64 * j)).map byteV ++ rest) :: row 125 b8 [.int .u32 ((j : Nat) : Int)] :: row 9 b3 [str key] :: row 9 b4 [str nonce] :: quA :: R) (blkOf Tryd.f54 1) (endQ c l o R (fun L1 => L1 = [row 5 yb ((turnP key nonce tx (64 * (j + 1))).map byteV ++ rest), row 125 b8 [.int .u32 (((j + 1) : Nat) : Int)], row 9 b3 [str key], row 9 b4 [str nonce], quA])) ⟨40, [(9, .slice (some ⟨yb, 64 * j, none⟩) (min 64 (tx.length - 64 * j)) (min 64 (tx.length - 64 * j))), (8, .pointer (some ⟨b8, 0, none⟩)), (3, .pointer (some ⟨b3, 0, none⟩)), (4, .pointer (some ⟨b4, 0, none⟩))], g⟩ := by
  have hl : (turnP key nonce tx (64 * j)).length = tx.length := turnP_len _ _ _ _
  refine T.code ?_
  repeat' (first
    | (refine T.atB 2 ?_; obtain ⟨m, hm⟩ : ∃ m, m = min 64 (tx.length - 64 * j) := ⟨_, rfl⟩; rw [← hm]; refine T.lpa 2 [(9, _), (10, _), (24, _)] ((0, turnP key nonce tx (64 * j)) : Nat × List UInt8) (fun s => [(25, .int .i64 (s.1 : Nat))]) (fun s => [row 5 yb (s.2.map byteV ++ rest)]) (fun s => s.1 ≤ m ∧ s.2 = turnP key nonce tx (64 * j + s.1)) (fun s => m - s.1) ⟨Nat.zero_le _, rfl⟩ ?_; rintro ⟨i, ys⟩ g ⟨hI, hy⟩; dsimp only at hI hy ⊢; have hly : ys.length = tx.length := (by rw [hy]; exact turnP_len _ _ _ _); simp only [List.cons_append, List.nil_append, appR])
    | (refine Vc.mk ⟨h1, h2, by omega⟩ ?_)
    | (refine Vc.mk (by first | (simp only [true_and, and_true, List.length_append, List.length_map, blockE_len, List.length_replicate, turnP_len]; done) | (simp only [true_and, and_true, List.length_append, List.length_map, blockE_len, List.length_replicate, turnP_len]; omega)) ?_)
    | (first | (simp only [List.length_map, blockE_len, List.length_replicate]; done) | (simp only [List.length_map, blockE_len, List.length_replicate]; omega))
    | (refine TQ.rd (i + 1, _) rfl ⟨rfl, rfl, rfl, rfl, trivial⟩ ⟨by omega, ?_⟩ (by dsimp only; omega) (Ent.imp (by repeat first | exact Imp.refl _ | (apply Imp.pull; focus ((repeat first | exact Del.head _ _ | apply Del.tail); done)) | apply Imp.drop)))
    | (show ys.set _ _ = _; rw [hy, turnP_get (by omega), if_neg (by omega), ← ksE_at (by omega)]; exact turnP_set (by omega))
    | (have e9 : ys = turnP key nonce tx (64 * (j + 1)) := (by rw [hy, ← turnP_end hm hj]; congr; omega); rw [e9]; exact TQ.endR rfl Ent.ic)
    | refine T.pl 10 [9] (.p 0 (.p 1 (.p 4 (.p 5 (.d 2 (.d 3 (.d 6 (.p 7 (.d 8 (.n 9 .fin)))))))))) ?_
    | refine And.intro (fun hc => ?_) (fun hc => ?_)
    | refine And.intro ?_ ?_
    | intro b
    | refine stp ?_
    | refine TQ.finC ?_
    | refine TQ.finC2 ?_
    | refine TQ.finC3 ?_
    | refine ⟨fun hc => ?_, fun hc => ?_⟩
    | refine Ei.f ?_
    | refine ⟨?_, ?_⟩
    | intro b
    | omega
    | (dsimp only; omega)
    | fail)

end Go.Proofs.YthbpjjlinebooaaDoor


namespace Go.Proofs.YthbpjjlinebooaaDoor
open Go Pw
set_option maxRecDepth 20000
set_option maxHeartbeats 4000000
set_option maxHeartbeats 400000
theorem turned_spec (key nonce tx : List UInt8) (h1 : key.length = 32) (h2 : nonce.length = 12) (hn : tx.length < 4294967296) :
    Sat Tryd.prog 54 [str key, str nonce, str tx] [quA] (fun u L' => u = str (turnedE key nonce tx) ∧ L' = [quA]) := by
  all_goals
    refine Sat.enter Tryd.func54 rfl Tryd.ntmps54 rfl (fun c R => ?_)
    try simp only [List.cons_append, List.nil_append]
    repeat' (first
      | (refine T.atG ?_; rename_i b3 b4 yb k0 b8 bs; obtain ⟨bn, hbn⟩ : ∃ bn, bn = b := ⟨_, rfl⟩; subst hbn; refine T.open_sl (e := 5) (by repeat (first | exact Del.head _ _ | apply Del.tail)) (fun h _ _ => by cases h) (fun y9 k9 rest e1 e2 e3 => ?_); cases e1; refine T.rng (A := row 42 bs [.slice (some ⟨yb, 0, none⟩) tx.length (tx.length + k9)] :: row 3 bn [.int .i64 ((64 : Nat) : Int)] :: [row 5 yb (tx.map byteV ++ rest), row 125 b8 [.int .u32 0], row 9 b3 [str key], row 9 b4 [str nonce], quA]) (first := []) (cap := [.pointer (some ⟨bs, 0, none⟩), .pointer (some ⟨bn, 0, none⟩)]) rfl Tryd.call67 (PickC.h) (fun L1 => L1 = row 42 bs [.slice (some ⟨yb, 0, none⟩) tx.length (tx.length + k9)] :: row 3 bn [.int .i64 ((64 : Nat) : Int)] :: (fun j => [row 5 yb ((turnP key nonce tx (64 * j)).map byteV ++ rest), row 125 b8 [.int .u32 ((j : Nat) : Int)], row 9 b3 [str key], row 9 b4 [str nonce], quA]) ((tx.length + 63) / 64)) ?_ ?_)
      | (intro l m fn; have hH : [row 5 yb (tx.map byteV ++ rest), row 125 b8 [.int .u32 0], row 9 b3 [str key], row 9 b4 [str nonce], quA] = (fun j => [row 5 yb ((turnP key nonce tx (64 * j)).map byteV ++ rest), row 125 b8 [.int .u32 ((j : Nat) : Int)], row 9 b3 [str key], row 9 b4 [str nonce], quA]) 0 := (by simp only [Nat.mul_zero, turnP_0]; rfl); rw [hH]; refine SatC.post (chunk64_spec yb tx.length (tx.length + k9) bs bn (fun j => [row 5 yb ((turnP key nonce tx (64 * j)).map byteV ++ rest), row 125 b8 [.int .u32 ((j : Nat) : Int)], row 9 b3 [str key], row 9 b4 [str nonce], quA]) hn (by omega) rfl rfl rfl (fun j hj => Yl.of1 (fun R => ?_))) (fun v L' h => ⟨_, rfl, h⟩); simp only [List.cons_append, List.nil_append])
      | (refine TQ.thenR ?_)
      | (refine T.atB 1 ?_; refine T.useE (fun g => turned_round yb b8 b3 b4 j key nonce tx rest h1 h2 hn hj))
      | (intro m L1 hL1; subst hL1; simp only [List.cons_append, List.nil_append]; refine TQ.shut (b := yb) (e := 5) (n := tx.length) (k := k9) (xs := (turnP key nonce tx (64 * ((tx.length + 63) / 64))).map byteV) (rest := rest) (by rw [List.length_map, turnP_len]) (by omega) ?_)
      | (rw [turnP_ge (by omega)]; refine TQ.finM (Fini.mk ⟨rfl, rfl⟩))
      | refine T.pl 10 [9] (.p 0 (.p 1 (.p 4 (.p 5 (.d 2 (.d 3 (.d 6 (.p 7 (.d 8 (.n 9 .fin)))))))))) ?_
      | refine And.intro (fun hc => ?_) (fun hc => ?_)
      | refine And.intro ?_ ?_
      | intro b
      | refine stp ?_
      | refine TQ.finC ?_
      | refine TQ.finC2 ?_
      | refine TQ.finC3 ?_
      | refine ⟨fun hc => ?_, fun hc => ?_⟩
      | refine Ei.f ?_
      | refine ⟨?_, ?_⟩
      | intro b
      | omega
      | (dsimp only; omega)
      | fail)
instance {L : List Assn} {R : List Assn} {key nonce tx : List UInt8} [hd : DelC quA L R] : FnR Tryd.prog 54 [str key, str nonce, str tx] L (fun q => Vc (key.length = 32 ∧ nonce.length = 12 ∧ tx.length < 4294967296) (q (str (turnedE key nonce tx)) (quA :: R))) := ⟨fun q h => ⟨_, R, _, turned_spec key nonce tx h.l.1 h.l.2.1 h.l.2.2, Pick.of1 hd.h, fun v L' hq => by rw [hq.1, hq.2]; exact h.r⟩⟩

end Go.Proofs.YthbpjjlinebooaaDoor

