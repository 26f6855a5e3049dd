/- Lemmas for the proofs of this seat: no statement of the seat is claimed here. -/
import Derived.Test.YtcidilijlgaohaaDoorA6
import Derived.Test.YtcidilijlgaohaaDoorPxG
set_option linter.all false
namespace Go.Proofs.YtcidilijlgaohaaDoor
open Go Pw
set_option maxRecDepth 20000
set_option maxHeartbeats 4000000
set_option maxHeartbeats 400000
attribute [local irreducible] gt rotE leE qrs
theorem half_0 {c : Ctx} {R : List Assn} {Q : Exit → Env → Rd → World → Prop} {g : Nat → Value} {yb A B C D : Nat} {v46 v6 v8 v10 v49 v48 : Value} (zs : List Nat) [Ln zs 16] [B32 zs] [CalmC Q] (hA : A < 16) (hB : B < 16) (hC : C < 16) (hD : D < 16) :
    T Tryd.prog R0 c (row 47 yb (zs.map vU32) :: R) (blkOf Tryd.f22 7) (cutQ R0 c 131 (fun _ => [(46, v46), (6, v6), (8, v8), (10, v10), (49, v49), (13, .pointer (some ⟨yb, A, none⟩)), (14, .pointer (some ⟨yb, B, none⟩)), (15, .pointer (some ⟨yb, C, none⟩)), (16, .pointer (some ⟨yb, D, none⟩)), (48, v48), (66, .agg #[.int .i64 16, .int .i64 12, .int .i64 8, .int .i64 7]), (67, .int .i64 0)]) (fun s => row 47 yb (s.map vU32) :: R) (fun t => t = qh A B C D 16 12 zs) Q) ⟨131, [(46, v46), (6, v6), (8, v8), (10, v10), (49, v49), (13, .pointer (some ⟨yb, A, none⟩)), (14, .pointer (some ⟨yb, B, none⟩)), (15, .pointer (some ⟨yb, C, none⟩)), (16, .pointer (some ⟨yb, D, none⟩)), (48, v48), (66, .agg #[.int .i64 16, .int .i64 12, .int .i64 8, .int .i64 7]), (67, .int .i64 0)], g⟩ := by
  refine T.code ?_
  refine stp ?_
  refine stp ?_
  repeat' (first
    | (first | refine Vc.mk ⟨Lt32.h, Lt32.h⟩ ?_ | refine Vc.mk ⟨by decide, Lt32.h⟩ ?_ | refine Vc.mk (lt_ln (by first | decide | assumption)) ?_ | refine Vc.mk ⟨lt_ln (by first | decide | assumption), trivial⟩ ?_)
    | (refine T.atR 19 ?_; apply T.cutr 19 [(46, _), (6, _), (8, _), (10, _), (49, _), (13, _), (14, _), (15, _), (16, _), (48, _), (66, _), (67, _), (18, _)] zs (fun _ => []) (fun s : List Nat => [row 47 yb (s.map vU32)]) (by repeat' first | exact trivial | refine ⟨?_, ?_⟩ | (conv => lhs; whnf)); simp only [List.cons_append, List.nil_append, appR])
    | (refine T.atR 20 ?_; apply T.cutr 20 [(46, _), (6, _), (8, _), (10, _), (49, _), (13, _), (14, _), (15, _), (16, _), (48, _), (66, _), (67, _), (18, _)] z1 (fun _ => []) (fun s : List Nat => [row 47 yb (s.map vU32)]) (by repeat' first | exact trivial | refine ⟨?_, ?_⟩ | (conv => lhs; whnf)); simp only [List.cons_append, List.nil_append, appR])
    | (refine T.atR 21 ?_; apply T.cutr 21 [(46, _), (6, _), (8, _), (10, _), (49, _), (13, _), (14, _), (15, _), (16, _), (48, _), (66, _), (67, _), (18, _)] z2 (fun _ => []) (fun s : List Nat => [row 47 yb (s.map vU32)]) (by repeat' first | exact trivial | refine ⟨?_, ?_⟩ | (conv => lhs; whnf)); simp only [List.cons_append, List.nil_append, appR])
    | (refine TQ.atC ?_; refine TQ.cn _ rfl ⟨rfl, rfl, rfl, rfl, rfl, rfl, rfl, rfl, rfl, rfl, rfl, rfl, rfl, trivial⟩ rfl (Ent.imp (by repeat first | exact Imp.refl _ | (apply Imp.pull; focus ((repeat first | exact Del.head _ _ | apply Del.tail); done)) | apply Imp.drop)))
    | (first | (have _j := z2; clear _j; intro z3 g ez3; haveI : Ln z3 16 := (by rw [ez3]; infer_instance); haveI : B32 z3 := (by rw [ez3]; infer_instance); simp only [List.cons_append, List.nil_append, appR]) | (have _j := z1; clear _j; intro z2 g ez2; haveI : Ln z2 16 := (by rw [ez2]; infer_instance); haveI : B32 z2 := (by rw [ez2]; infer_instance); simp only [List.cons_append, List.nil_append, appR]) | (intro z1 g ez1; haveI : Ln z1 16 := (by rw [ez1]; infer_instance); haveI : B32 z1 := (by rw [ez1]; infer_instance); simp only [List.cons_append, List.nil_append, appR]))
    | (refine TQ.atC ?_; refine TQ.cn _ rfl ⟨rfl, rfl, rfl, rfl, rfl, rfl, rfl, rfl, rfl, rfl, rfl, rfl, trivial⟩ ?_ (Ent.imp (by repeat first | exact Imp.refl _ | (apply Imp.pull; focus ((repeat first | exact Del.head _ _ | apply Del.tail); done)) | apply Imp.drop)))
    | (rw [ez3, ez2, ez1]; rfl)
    | refine T.pl 15 [] (.p 0 (.p 3 (.p 6 (.p 9 (.d 1 (.p 2 (.p 12 (.d 4 (.p 5 (.p 13 (.d 7 (.p 8 (.p 14 (.d 10 (.p 11 (.p 15 .fin)))))))))))))))) ?_
    | refine T.pl 19 [8] (.p 0 (.p 1 (.p 3 (.p 4 (.d 2 (.d 5 (.p 6 (.p 7 (.n 8 .fin))))))))) ?_
    | refine T.pl 20 [10, 12] (.p 0 (.p 1 (.p 2 (.p 4 (.p 5 (.p 8 (.d 3 (.d 6 (.p 7 (.d 9 (.n 10 (.p 11 (.n 12 .fin))))))))))))) ?_
    | refine T.pl 21 [8] (.p 0 (.p 1 (.p 3 (.p 4 (.d 2 (.d 5 (.p 6 (.p 7 (.n 8 .fin))))))))) ?_
    | refine T.pl 22 [10, 12] (.p 0 (.p 1 (.p 2 (.p 4 (.p 5 (.p 8 (.d 3 (.d 6 (.p 7 (.d 9 (.n 10 (.p 11 (.n 12 .fin))))))))))))) ?_
    | refine T.pl 29 [11, 12] (.p 0 (.p 1 (.p 2 (.p 3 (.p 4 (.p 6 (.p 7 (.d 5 (.d 8 (.p 9 (.p 10 (.n 11 (.n 12 .fin))))))))))))) ?_
    | refine stp ?_
    | refine TQ.finC ?_
    | refine ⟨fun hc => ?_, fun hc => ?_⟩
    | refine Ei.f ?_
    | refine ⟨?_, ?_⟩
    | intro b
    | omega
    | (dsimp only; omega)
    | fail)
theorem half_1 {c : Ctx} {R : List Assn} {Q : Exit → Env → Rd → World → Prop} {g : Nat → Value} {yb A B C D : Nat} {v46 v6 v8 v10 v49 v48 : Value} (zs : List Nat) [Ln zs 16] [B32 zs] [CalmC Q] (hA : A < 16) (hB : B < 16) (hC : C < 16) (hD : D < 16) :
    T Tryd.prog R0 c (row 47 yb (zs.map vU32) :: R) (blkOf Tryd.f22 7) (cutQ R0 c 131 (fun _ => [(46, v46), (6, v6), (8, v8), (10, v10), (49, v49), (13, .pointer (some ⟨yb, A, none⟩)), (14, .pointer (some ⟨yb, B, none⟩)), (15, .pointer (some ⟨yb, C, none⟩)), (16, .pointer (some ⟨yb, D, none⟩)), (48, v48), (66, .agg #[.int .i64 16, .int .i64 12, .int .i64 8, .int .i64 7]), (67, .int .i64 ((1 : Nat) : Int))]) (fun s => row 47 yb (s.map vU32) :: R) (fun t => t = qh A B C D 8 7 zs) Q) ⟨131, [(46, v46), (6, v6), (8, v8), (10, v10), (49, v49), (13, .pointer (some ⟨yb, A, none⟩)), (14, .pointer (some ⟨yb, B, none⟩)), (15, .pointer (some ⟨yb, C, none⟩)), (16, .pointer (some ⟨yb, D, none⟩)), (48, v48), (66, .agg #[.int .i64 16, .int .i64 12, .int .i64 8, .int .i64 7]), (67, .int .i64 ((1 : Nat) : Int))], g⟩ := by
  refine T.code ?_
  refine stp ?_
  refine stp ?_
  repeat' (first
    | (first | refine Vc.mk ⟨Lt32.h, Lt32.h⟩ ?_ | refine Vc.mk ⟨by decide, Lt32.h⟩ ?_ | refine Vc.mk (lt_ln (by first | decide | assumption)) ?_ | refine Vc.mk ⟨lt_ln (by first | decide | assumption), trivial⟩ ?_)
    | (refine T.atR 19 ?_; apply T.cutr 19 [(46, _), (6, _), (8, _), (10, _), (49, _), (13, _), (14, _), (15, _), (16, _), (48, _), (66, _), (67, _), (18, _)] zs (fun _ => []) (fun s : List Nat => [row 47 yb (s.map vU32)]) (by repeat' first | exact trivial | refine ⟨?_, ?_⟩ | (conv => lhs; whnf)); simp only [List.cons_append, List.nil_append, appR])
    | (refine T.atR 20 ?_; apply T.cutr 20 [(46, _), (6, _), (8, _), (10, _), (49, _), (13, _), (14, _), (15, _), (16, _), (48, _), (66, _), (67, _), (18, _)] z1 (fun _ => []) (fun s : List Nat => [row 47 yb (s.map vU32)]) (by repeat' first | exact trivial | refine ⟨?_, ?_⟩ | (conv => lhs; whnf)); simp only [List.cons_append, List.nil_append, appR])
    | (refine T.atR 21 ?_; apply T.cutr 21 [(46, _), (6, _), (8, _), (10, _), (49, _), (13, _), (14, _), (15, _), (16, _), (48, _), (66, _), (67, _), (18, _)] z2 (fun _ => []) (fun s : List Nat => [row 47 yb (s.map vU32)]) (by repeat' first | exact trivial | refine ⟨?_, ?_⟩ | (conv => lhs; whnf)); simp only [List.cons_append, List.nil_append, appR])
    | (refine TQ.atC ?_; refine TQ.cn _ rfl ⟨rfl, rfl, rfl, rfl, rfl, rfl, rfl, rfl, rfl, rfl, rfl, rfl, rfl, trivial⟩ rfl (Ent.imp (by repeat first | exact Imp.refl _ | (apply Imp.pull; focus ((repeat first | exact Del.head _ _ | apply Del.tail); done)) | apply Imp.drop)))
    | (first | (have _j := z2; clear _j; intro z3 g ez3; haveI : Ln z3 16 := (by rw [ez3]; infer_instance); haveI : B32 z3 := (by rw [ez3]; infer_instance); simp only [List.cons_append, List.nil_append, appR]) | (have _j := z1; clear _j; intro z2 g ez2; haveI : Ln z2 16 := (by rw [ez2]; infer_instance); haveI : B32 z2 := (by rw [ez2]; infer_instance); simp only [List.cons_append, List.nil_append, appR]) | (intro z1 g ez1; haveI : Ln z1 16 := (by rw [ez1]; infer_instance); haveI : B32 z1 := (by rw [ez1]; infer_instance); simp only [List.cons_append, List.nil_append, appR]))
    | (refine TQ.atC ?_; refine TQ.cn _ rfl ⟨rfl, rfl, rfl, rfl, rfl, rfl, rfl, rfl, rfl, rfl, rfl, rfl, trivial⟩ ?_ (Ent.imp (by repeat first | exact Imp.refl _ | (apply Imp.pull; focus ((repeat first | exact Del.head _ _ | apply Del.tail); done)) | apply Imp.drop)))
    | (rw [ez3, ez2, ez1]; rfl)
    | refine T.pl 15 [] (.p 0 (.p 3 (.p 6 (.p 9 (.d 1 (.p 2 (.p 12 (.d 4 (.p 5 (.p 13 (.d 7 (.p 8 (.p 14 (.d 10 (.p 11 (.p 15 .fin)))))))))))))))) ?_
    | refine T.pl 19 [8] (.p 0 (.p 1 (.p 3 (.p 4 (.d 2 (.d 5 (.p 6 (.p 7 (.n 8 .fin))))))))) ?_
    | refine T.pl 20 [10, 12] (.p 0 (.p 1 (.p 2 (.p 4 (.p 5 (.p 8 (.d 3 (.d 6 (.p 7 (.d 9 (.n 10 (.p 11 (.n 12 .fin))))))))))))) ?_
    | refine T.pl 21 [8] (.p 0 (.p 1 (.p 3 (.p 4 (.d 2 (.d 5 (.p 6 (.p 7 (.n 8 .fin))))))))) ?_
    | refine T.pl 22 [10, 12] (.p 0 (.p 1 (.p 2 (.p 4 (.p 5 (.p 8 (.d 3 (.d 6 (.p 7 (.d 9 (.n 10 (.p 11 (.n 12 .fin))))))))))))) ?_
    | refine T.pl 29 [11, 12] (.p 0 (.p 1 (.p 2 (.p 3 (.p 4 (.p 6 (.p 7 (.d 5 (.d 8 (.p 9 (.p 10 (.n 11 (.n 12 .fin))))))))))))) ?_
    | refine stp ?_
    | refine TQ.finC ?_
    | refine ⟨fun hc => ?_, fun hc => ?_⟩
    | refine Ei.f ?_
    | refine ⟨?_, ?_⟩
    | intro b
    | omega
    | (dsimp only; omega)
    | fail)

end Go.Proofs.YtcidilijlgaohaaDoor
