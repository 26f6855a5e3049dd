/- Lemmas for the proofs of this seat: no statement of the seat is claimed here. -/
import Derived.Test.YtpidkdkbgjnhlaaW4
set_option linter.all false
namespace Go.Proofs.Ytpidkdkbgjnhlaa
open Go Pw
set_option maxRecDepth 20000
theorem ins_nil (vb a l : Nat) :
    Sat Try.prog 45 [.slice none 0 0, .int .i64 (0 : Nat), .slice (some ⟨vb, 0, none⟩) 1 1] [pt vb (.cells #[.int .u32 a, .int .u32 l] 42 (0, 0))] (fun u L' => L' = [sl 42 2 u 1 [.int .u32 a, .int .u32 l]]) := by
  refine Sat.enter Try.func45 rfl Try.ntmps45 rfl (fun c R => ?_)
  try simp only [List.cons_append, List.nil_append]
  refine T.seq ?_
  refine T.reg ?_
  refine TO.p (DP.as (by conv => lhs; whnf)) ?_
  refine TO.nil ?_
  refine TQ.nn ?_
  refine T.seq ?_
  refine T.reg ?_
  refine TO.p (DP.mv (by conv => lhs; whnf)) ?_
  refine TO.p (DP.mv (by conv => lhs; whnf)) ?_
  refine TO.p (DP.slSl0 rfl rfl Try.underlying36 sz42) ?_
  refine TO.nil ?_
  refine TQ.nn ?_
  refine T.seq ?_
  refine T.reg ?_
  refine TO.p (DP.mv (by conv => lhs; whnf)) ?_
  refine TO.p (DP.lenS rfl Try.underlying36) ?_
  refine TO.p (DP.as (by conv => lhs; whnf)) ?_
  refine TO.nil ?_
  refine TQ.nn ?_
  refine T.seq ?_
  refine T.seq ?_
  refine T.reg ?_
  refine TO.p (DP.mv (by conv => lhs; whnf)) ?_
  refine TO.p (DP.eql (a := 1) (b := 0) rfl rfl) ?_
  refine TO.nil ?_
  refine TQ.nn ?_
  refine T.condD rfl (fun hc0 => ?_) (fun hc0 => ?_)
  · exact absurd hc0 (by decide)
  · refine T.skip ?_
    refine TQ.nn ?_
    refine T.seq ?_
    refine T.reg ?_
    refine TO.p (DP.mv (by conv => lhs; whnf)) ?_
    refine TO.p (DP.lenS rfl Try.underlying36) ?_
    refine TO.p (DP.as (by conv => lhs; whnf)) ?_
    refine TO.nil ?_
    refine TQ.nn ?_
    refine T.seq ?_
    refine T.seq ?_
    refine T.reg ?_
    refine TO.p (DP.mv (by conv => lhs; whnf)) ?_
    refine TO.p (DP.mv (by conv => lhs; whnf)) ?_
    refine TO.p (DP.eql (a := 0) (b := 0) rfl rfl) ?_
    refine TO.nil ?_
    refine TQ.nn ?_
    refine T.condD rfl (fun hc1 => ?_) (fun hc1 => ?_)
    · refine T.seq ?_
      refine T.ent (Ent.nil (e := 42) (sz := 2)) ?_
      refine T.reg ?_
      refine TO.p (DP.mv (by conv => lhs; whnf)) ?_
      refine TO.p (DP.mv (by conv => lhs; whnf)) ?_
      refine TO.n (N.app rfl rfl Try.underlying36 sz42 by42 zr42 rfl rfl (by (repeat first | exact Del.head _ _ | apply Del.tail)) (Src.sl (news := [.int .u32 a, .int .u32 l]) Try.underlying36 rfl (by (repeat first | exact LMem.head _ _ | apply LMem.tail)) (ReadsN.cells (fun i v hv => by simpa using hv))) (by intro u hu; simp at hu; rcases hu with rfl | rfl <;> rfl) (by omega)) ?_
      rintro v25 _ rfl
      refine TO.p (DP.as (by conv => lhs; whnf)) ?_
      refine TO.nil ?_
      refine TQ.nn ?_
      refine T.ret ?_
      refine TQ.nr ?_
      refine TQ.ret (vs := [v25]) (L' := [_]) rfl ⟨rfl, rfl⟩ rfl (by (refine Ent.imp ?_; repeat first | exact Imp.refl _ | exact Imp.nil _ | (apply Imp.pull; focus ((repeat first | exact Del.head _ _ | apply Del.tail); done)) | (apply Imp.row; focus ((repeat first | exact Del.head _ _ | apply Del.tail); done)) | apply Imp.drop))
    · exact absurd rfl hc1

theorem ins_end (b n k vb a l : Nat) (xs rest : List Value) (hn : n ≤ 1048576) (hx : xs.length = n * 2) (hr : rest.length = k * 2) :
    Sat Try.prog 45 [.slice (some ⟨b, 0, none⟩) n (n + k), .int .i64 n, .slice (some ⟨vb, 0, none⟩) 1 1] [row 42 b (xs ++ rest), pt vb (.cells #[.int .u32 a, .int .u32 l] 42 (0, 0))] (fun u L' => L' = [sl 42 2 u (n + 1) (xs ++ [.int .u32 a, .int .u32 l])]) := by
  refine Sat.enter Try.func45 rfl Try.ntmps45 rfl (fun c R => ?_)
  try simp only [List.cons_append, List.nil_append]
  refine T.seq ?_
  refine T.reg ?_
  refine TO.p (DP.as (by conv => lhs; whnf)) ?_
  refine TO.nil ?_
  refine TQ.nn ?_
  refine T.seq ?_
  refine T.reg ?_
  refine TO.p (DP.mv (by conv => lhs; whnf)) ?_
  refine TO.p (DP.mv (by conv => lhs; whnf)) ?_
  refine TO.p (DP.slSl rfl rfl Try.underlying36 sz42 (by omega)) ?_
  refine TO.nil ?_
  refine TQ.nn ?_
  refine T.seq ?_
  refine T.reg ?_
  refine TO.p (DP.mv (by conv => lhs; whnf)) ?_
  refine TO.p (DP.lenS rfl Try.underlying36) ?_
  refine TO.p (DP.as (by conv => lhs; whnf)) ?_
  refine TO.nil ?_
  refine TQ.nn ?_
  refine T.seq ?_
  refine T.seq ?_
  refine T.reg ?_
  refine TO.p (DP.mv (by conv => lhs; whnf)) ?_
  refine TO.p (DP.eql (a := 1) (b := 0) rfl rfl) ?_
  refine TO.nil ?_
  refine TQ.nn ?_
  refine T.condD rfl (fun hc0 => ?_) (fun hc0 => ?_)
  · exact absurd hc0 (by decide)
  · refine T.skip ?_
    refine TQ.nn ?_
    refine T.seq ?_
    refine T.reg ?_
    refine TO.p (DP.mv (by conv => lhs; whnf)) ?_
    refine TO.p (DP.lenS rfl Try.underlying36) ?_
    refine TO.p (DP.as (by conv => lhs; whnf)) ?_
    refine TO.nil ?_
    refine TQ.nn ?_
    refine T.seq ?_
    refine T.seq ?_
    refine T.reg ?_
    refine TO.p (DP.mv (by conv => lhs; whnf)) ?_
    refine TO.p (DP.mv (by conv => lhs; whnf)) ?_
    refine TO.p (DP.eql rfl rfl) ?_
    refine TO.nil ?_
    refine TQ.nn ?_
    refine T.condD rfl (fun hc1 => ?_) (fun hc1 => ?_)
    · refine T.seq ?_
      refine T.ent (Ent.imp (Imp.sl (k := k) (Del.head _ _) hx hr (Imp.refl _))) ?_
      refine T.reg ?_
      refine TO.p (DP.mv (by conv => lhs; whnf)) ?_
      refine TO.p (DP.mv (by conv => lhs; whnf)) ?_
      refine TO.n (N.app rfl rfl Try.underlying36 sz42 by42 zr42 rfl rfl (by (repeat first | exact Del.head _ _ | apply Del.tail)) (Src.sl (news := [.int .u32 a, .int .u32 l]) Try.underlying36 rfl (by (repeat first | exact LMem.head _ _ | apply LMem.tail)) (ReadsN.cells (fun i v hv => by simpa using hv))) (by intro u hu; simp at hu; rcases hu with rfl | rfl <;> rfl) (by omega)) ?_
      rintro v25 _ rfl
      refine TO.p (DP.as (by conv => lhs; whnf)) ?_
      refine TO.nil ?_
      refine TQ.nn ?_
      refine T.ret ?_
      refine TQ.nr ?_
      refine TQ.ret (vs := [v25]) (L' := [_]) rfl ⟨rfl, rfl⟩ rfl (by (refine Ent.imp ?_; repeat first | exact Imp.refl _ | exact Imp.nil _ | (apply Imp.pull; focus ((repeat first | exact Del.head _ _ | apply Del.tail); done)) | (apply Imp.row; focus ((repeat first | exact Del.head _ _ | apply Del.tail); done)) | apply Imp.drop))
    · exact absurd rfl hc1

theorem ins_room (b n k i vb a l : Nat) (X Y rest : List Value) (hn : n ≤ 1048576) (hi : i < n) (hX : X.length = i * 2) (hY : Y.length = (n - i) * 2) (hr : rest.length = k * 2) (honeY : ∀ u ∈ Y, u.oneCell' = true) (hk : 1 ≤ k) :
    Sat Try.prog 45 [.slice (some ⟨b, 0, none⟩) n (n + k), .int .i64 i, .slice (some ⟨vb, 0, none⟩) 1 1] [row 42 b (X ++ Y ++ rest), pt vb (.cells #[.int .u32 a, .int .u32 l] 42 (0, 0))] (fun u L' => u = .slice (some ⟨b, 0, none⟩) (n + 1) (n + 1 + (k - 1)) ∧ L' = [row 42 b (X ++ [.int .u32 a, .int .u32 l] ++ Y ++ rest.drop 2)]) := by
  refine Sat.enter Try.func45 rfl Try.ntmps45 rfl (fun c R => ?_)
  try simp only [List.cons_append, List.nil_append]
  refine T.seq ?_
  refine T.reg ?_
  refine TO.p (DP.as (by conv => lhs; whnf)) ?_
  refine TO.nil ?_
  refine TQ.nn ?_
  refine T.seq ?_
  refine T.reg ?_
  refine TO.p (DP.mv (by conv => lhs; whnf)) ?_
  refine TO.p (DP.mv (by conv => lhs; whnf)) ?_
  refine TO.p (DP.slSl rfl rfl Try.underlying36 sz42 (by omega)) ?_
  refine TO.nil ?_
  refine TQ.nn ?_
  refine T.seq ?_
  refine T.reg ?_
  refine TO.p (DP.mv (by conv => lhs; whnf)) ?_
  refine TO.p (DP.lenS rfl Try.underlying36) ?_
  refine TO.p (DP.as (by conv => lhs; whnf)) ?_
  refine TO.nil ?_
  refine TQ.nn ?_
  refine T.seq ?_
  refine T.seq ?_
  refine T.reg ?_
  refine TO.p (DP.mv (by conv => lhs; whnf)) ?_
  refine TO.p (DP.eql (a := 1) (b := 0) rfl rfl) ?_
  refine TO.nil ?_
  refine TQ.nn ?_
  refine T.condD rfl (fun hc0 => ?_) (fun hc0 => ?_)
  · exact absurd hc0 (by decide)
  · refine T.skip ?_
    refine TQ.nn ?_
    refine T.seq ?_
    refine T.reg ?_
    refine TO.p (DP.mv (by conv => lhs; whnf)) ?_
    refine TO.p (DP.lenS rfl Try.underlying36) ?_
    refine TO.p (DP.as (by conv => lhs; whnf)) ?_
    refine TO.nil ?_
    refine TQ.nn ?_
    refine T.seq ?_
    refine T.seq ?_
    refine T.reg ?_
    refine TO.p (DP.mv (by conv => lhs; whnf)) ?_
    refine TO.p (DP.mv (by conv => lhs; whnf)) ?_
    refine TO.p (DP.eql rfl rfl) ?_
    refine TO.nil ?_
    refine TQ.nn ?_
    refine T.condD rfl (fun hc1 => ?_) (fun hc1 => ?_)
    · exact absurd hc1 (by omega)
    · refine T.skip ?_
      refine TQ.nn ?_
      refine T.seq ?_
      refine T.seq ?_
      refine T.reg ?_
      refine TO.p (DP.mv (by conv => lhs; whnf)) ?_
      refine TO.p (DP.mv (by conv => lhs; whnf)) ?_
      refine TO.p (DP.add rfl rfl (l := 9223372036854775808) rfl (by omega)) ?_
      refine TO.p (DP.mv (by conv => lhs; whnf)) ?_
      refine TO.p (DP.capS rfl Try.underlying36) ?_
      refine TO.p (DP.gtr rfl rfl) ?_
      refine TO.nil ?_
      refine TQ.nn ?_
      refine T.condD rfl (fun hc2 => ?_) (fun hc2 => ?_)
      · exact absurd hc2 (by omega)
      · refine T.skip ?_
        refine TQ.nn ?_
        refine T.seq ?_
        refine T.reg ?_
        refine TO.p (DP.mv (by conv => lhs; whnf)) ?_
        refine TO.p (DP.mv (by conv => lhs; whnf)) ?_
        refine TO.p (DP.mv (by conv => lhs; whnf)) ?_
        refine TO.p (DP.add rfl rfl (l := 9223372036854775808) rfl (by omega)) ?_
        refine TO.p (DP.slSh rfl rfl Try.underlying36 sz42 (by omega)) ?_
        refine TO.p (DP.as (by conv => lhs; whnf)) ?_
        refine TO.nil ?_
        refine TQ.nn ?_
        refine T.seq ?_
        refine T.seq ?_
        refine T.reg ?_
        refine TO.p (DP.mv (by conv => lhs; whnf)) ?_
        refine TO.p (DP.mv (by conv => lhs; whnf)) ?_
        refine TO.p (DP.mv (by conv => lhs; whnf)) ?_
        refine TO.p (DP.mv (by conv => lhs; whnf)) ?_
        refine TO.p (DP.add rfl rfl (l := 9223372036854775808) rfl (by omega)) ?_
        refine TO.p (DP.to (v' := .slice (some ⟨b, (i + 1) * 2, none⟩) (n + 1 - (i + 1)) (n + k - (i + 1))) (DP.slSl rfl rfl Try.underlying36 sz42 (by omega)) (by rw [if_neg (by omega)]; simp)) ?_
        refine TO.d (D.ovl (tR := 4) rfl rfl Try.func73 (by kernel_rfl) (by kernel_rfl) (by kernel_rfl) (by kernel_rfl) Try.underlying36 sz42 (.cons (.tail (.head _ _)) (.cons (.head _ _) (.nil _))) (by intro h; have h2 := congrArg List.length h; simp only [List.length_append, List.length_nil] at h2; omega)) ?_
        refine TO.p (DP.not (b := false) rfl) ?_
        refine TO.nil ?_
        refine TQ.nn ?_
        refine T.condT rfl ?_
        refine T.seq ?_
        have hcpY : (((X ++ Y ++ rest).drop (i * 2)).take ((n + 1 - i) * 2)).take ((n - i) * (1 + 1)) = Y := by
          rw [List.take_take, Nat.min_eq_left (by omega), List.append_assoc, ← hX, List.drop_left, show (n - i) * (1 + 1) = Y.length by omega, List.take_left]
        refine T.drawL [8] mixed (by repeat first | exact Calm.rt | apply Calm.t | apply Calm.b | apply Calm.l | apply Calm.ct) ?_
        refine TR.p 0 rfl (by kernel_rfl) (DP.mv (by conv => lhs; whnf)) ?_
        refine TR.p 1 rfl (by kernel_rfl) (DP.mv (by conv => lhs; whnf)) ?_
        refine TR.p 2 rfl (by kernel_rfl) (DP.mv (by conv => lhs; whnf)) ?_
        refine TR.p 3 rfl (by kernel_rfl) (DP.add rfl rfl (l := 9223372036854775808) rfl (by omega)) ?_
        refine TR.p 4 rfl (by kernel_rfl) (DP.to (v' := .slice (some ⟨b, (i + 1) * 2, none⟩) (n + 1 - (i + 1)) (n + k - (i + 1))) (DP.slSl rfl rfl Try.underlying36 sz42 (by omega)) (by rw [if_neg (by omega)]; simp)) ?_
        refine TR.p 5 rfl (by kernel_rfl) (DP.mv (by conv => lhs; whnf)) ?_
        refine TR.p 6 rfl (by kernel_rfl) (DP.mv (by conv => lhs; whnf)) ?_
        refine TR.p 7 rfl (by kernel_rfl) (DP.to (v' := .slice (some ⟨b, i * 2, none⟩) (n + 1 - i) (n + k - i)) (DP.slSl rfl rfl Try.underlying36 sz42 (by omega)) (by rw [if_neg (by omega)]; simp)) ?_
        refine TR.n 8 (by kernel_rfl) rfl (N.cpT (news := ((X ++ Y ++ rest).drop (i * 2)).take ((n + 1 - i) * 2)) rfl rfl Try.underlying36 sz42 (Src.sl Try.underlying36 (by simp only [List.length_take, List.length_drop, List.length_append]; omega) (by (repeat first | exact LMem.head _ _ | apply LMem.tail)) (ReadsN.row drop_reads)) (by rw [show min (n + 1 - i) (n + 1 - (i + 1)) = n - i by omega, hcpY]; exact honeY) (by (repeat first | exact Put.head _ _ _ | apply Put.tail)) (by simp only [List.length_append]; omega)) ?_
        rintro _ _ ⟨rfl, rfl⟩
        refine ⟨.inl rfl, ?_⟩
        refine TR.done (by kernel_rfl) ?_
        refine TQ.nn ?_
        refine T.seq ?_
        refine T.reg ?_
        refine TO.p (DP.mv (by conv => lhs; whnf)) ?_
        refine TO.p (DP.mv (by conv => lhs; whnf)) ?_
        refine TO.p (DP.to (v' := .slice (some ⟨b, i * 2, none⟩) (n + 1 - i) (n + k - i)) (DP.slSl rfl rfl Try.underlying36 sz42 (by omega)) (by rw [if_neg (by omega)]; simp)) ?_
        refine TO.p (DP.mv (by conv => lhs; whnf)) ?_
        refine TO.n (N.cp rfl rfl Try.underlying36 sz42 (Src.sl (news := [.int .u32 a, .int .u32 l]) Try.underlying36 rfl (by (repeat first | exact LMem.head _ _ | apply LMem.tail)) (ReadsN.cells (fun i v hv => by simpa using hv))) (by intro u hu; simp at hu; rcases hu with rfl | rfl <;> rfl) (by (repeat first | exact Put.head _ _ _ | apply Put.tail)) (by rw [length_setAll]; simp; omega)) ?_
        rintro _ _ ⟨rfl, rfl⟩
        refine TO.nil ?_
        refine TQ.nn ?_
        refine T.seq ?_
        refine T.reg ?_
        refine TO.p (DP.mv (by conv => lhs; whnf)) ?_
        refine TO.p (DP.as (by conv => lhs; whnf)) ?_
        refine TO.nil ?_
        refine TQ.nn ?_
        refine T.ret ?_
        refine TQ.nr ?_
        refine TQ.ret (vs := [.slice (some ⟨b, 0, none⟩) (n + 1) (n + 1 + (k - 1))]) (L' := [_]) rfl ⟨by rw [show n + 1 + (k - 1) = n + k by omega]; rfl, rfl⟩ ?_ (by (refine Ent.imp ?_; repeat first | exact Imp.refl _ | exact Imp.nil _ | (apply Imp.pull; focus ((repeat first | exact Del.head _ _ | apply Del.tail); done)) | (apply Imp.row; focus ((repeat first | exact Del.head _ _ | apply Del.tail); done)) | apply Imp.drop))
        refine ⟨rfl, congrArg (fun z => [row 42 b z]) ?_⟩
        have h1 := ins_cells (X := X) (Y := Y) (r := rest) (s := [.int .u32 a, .int .u32 l]) (by simp; omega)
        rw [show min 1 (n + 1 - i) = 1 by omega, show min (n + 1 - i) (n + 1 - (i + 1)) = n - i by omega]
        rw [hcpY, show (i + 1) * 2 = X.length + 2 by omega, ← hX]
        exact h1

theorem ins_grow (b n k i vb a l : Nat) (X Y rest : List Value) (hn : n ≤ 1048576) (hi : i < n) (hX : X.length = i * 2) (hY : Y.length = (n - i) * 2) (hr : rest.length = k * 2) (honeY : ∀ u ∈ Y, u.oneCell' = true) (hk : k = 0) :
    Sat Try.prog 45 [.slice (some ⟨b, 0, none⟩) n (n + k), .int .i64 i, .slice (some ⟨vb, 0, none⟩) 1 1] [row 42 b (X ++ Y ++ rest), pt vb (.cells #[.int .u32 a, .int .u32 l] 42 (0, 0))] (fun u L' => ∃ nb k rest', u = .slice (some ⟨nb, 0, none⟩) (n + 1) (n + 1 + k) ∧ rest'.length = k * 2 ∧ L' = [row 42 nb (X ++ [.int .u32 a, .int .u32 l] ++ Y ++ rest')]) := by
  refine Sat.enter Try.func45 rfl Try.ntmps45 rfl (fun c R => ?_)
  try simp only [List.cons_append, List.nil_append]
  refine T.seq ?_
  refine T.reg ?_
  refine TO.p (DP.as (by conv => lhs; whnf)) ?_
  refine TO.nil ?_
  refine TQ.nn ?_
  refine T.seq ?_
  refine T.reg ?_
  refine TO.p (DP.mv (by conv => lhs; whnf)) ?_
  refine TO.p (DP.mv (by conv => lhs; whnf)) ?_
  refine TO.p (DP.slSl rfl rfl Try.underlying36 sz42 (by omega)) ?_
  refine TO.nil ?_
  refine TQ.nn ?_
  refine T.seq ?_
  refine T.reg ?_
  refine TO.p (DP.mv (by conv => lhs; whnf)) ?_
  refine TO.p (DP.lenS rfl Try.underlying36) ?_
  refine TO.p (DP.as (by conv => lhs; whnf)) ?_
  refine TO.nil ?_
  refine TQ.nn ?_
  refine T.seq ?_
  refine T.seq ?_
  refine T.reg ?_
  refine TO.p (DP.mv (by conv => lhs; whnf)) ?_
  refine TO.p (DP.eql (a := 1) (b := 0) rfl rfl) ?_
  refine TO.nil ?_
  refine TQ.nn ?_
  refine T.condD rfl (fun hc0 => ?_) (fun hc0 => ?_)
  · exact absurd hc0 (by decide)
  · refine T.skip ?_
    refine TQ.nn ?_
    refine T.seq ?_
    refine T.reg ?_
    refine TO.p (DP.mv (by conv => lhs; whnf)) ?_
    refine TO.p (DP.lenS rfl Try.underlying36) ?_
    refine TO.p (DP.as (by conv => lhs; whnf)) ?_
    refine TO.nil ?_
    refine TQ.nn ?_
    refine T.seq ?_
    refine T.seq ?_
    refine T.reg ?_
    refine TO.p (DP.mv (by conv => lhs; whnf)) ?_
    refine TO.p (DP.mv (by conv => lhs; whnf)) ?_
    refine TO.p (DP.eql rfl rfl) ?_
    refine TO.nil ?_
    refine TQ.nn ?_
    refine T.condD rfl (fun hc1 => ?_) (fun hc1 => ?_)
    · exact absurd hc1 (by omega)
    · refine T.skip ?_
      refine TQ.nn ?_
      refine T.seq ?_
      refine T.seq ?_
      refine T.reg ?_
      refine TO.p (DP.mv (by conv => lhs; whnf)) ?_
      refine TO.p (DP.mv (by conv => lhs; whnf)) ?_
      refine TO.p (DP.add rfl rfl (l := 9223372036854775808) rfl (by omega)) ?_
      refine TO.p (DP.mv (by conv => lhs; whnf)) ?_
      refine TO.p (DP.capS rfl Try.underlying36) ?_
      refine TO.p (DP.gtr rfl rfl) ?_
      refine TO.nil ?_
      refine TQ.nn ?_
      refine T.condD rfl (fun hc2 => ?_) (fun hc2 => ?_)
      · refine T.seq ?_
        refine T.reg ?_
        refine TO.p (DP.mv (by conv => lhs; whnf)) ?_
        refine TO.p (DP.mv (by conv => lhs; whnf)) ?_
        refine TO.p (DP.slSh rfl rfl Try.underlying36 sz42 (by omega)) ?_
        refine TO.p (DP.mv (by conv => lhs; whnf)) ?_
        refine TO.p (DP.mv (by conv => lhs; whnf)) ?_
        refine TO.p (DP.add rfl rfl (l := 9223372036854775808) rfl (by omega)) ?_
        refine TO.p (DP.mv (by conv => lhs; whnf)) ?_
        refine TO.p (DP.sub rfl rfl (l := 9223372036854775808) rfl (by omega) (by omega)) ?_
        refine TO.n (N.appZ (pre := X) rfl rfl Try.underlying36 Try.underlying3 sz42 by42 zr42 rfl rfl (by (repeat first | exact LMem.head _ _ | apply LMem.tail)) (ReadsN.row (fun j u hu => by rw [Nat.zero_add, List.append_assoc, List.getElem?_append_left (by rcases Nat.lt_or_ge j X.length with h | h; exact h; rw [List.getElem?_eq_none h] at hu; cases hu)]; exact hu)) hX (by omega) (by omega) (by omega)) ?_
        rintro _ _ ⟨nb, k2, rest2, rfl, hr2, rfl⟩
        rw [show i + (n + 1 - i) = n + 1 by omega]
        refine TO.p (DP.as (by conv => lhs; whnf)) ?_
        refine TO.nil ?_
        refine TQ.nn ?_
        refine T.seq ?_
        refine T.reg ?_
        refine TO.p (DP.mv (by conv => lhs; whnf)) ?_
        refine TO.p (DP.mv (by conv => lhs; whnf)) ?_
        refine TO.p (DP.to (v' := .slice (some ⟨nb, i * 2, none⟩) (n + 1 - i) (n + 1 + k2 - i)) (DP.slSl rfl rfl Try.underlying36 sz42 (by omega)) (by rw [if_neg (by omega)]; simp)) ?_
        refine TO.p (DP.mv (by conv => lhs; whnf)) ?_
        refine TO.n (N.cp rfl rfl Try.underlying36 sz42 (Src.sl (news := [.int .u32 a, .int .u32 l]) Try.underlying36 rfl (by (repeat first | exact LMem.head _ _ | apply LMem.tail)) (ReadsN.cells (fun i v hv => by simpa using hv))) (by intro u hu; simp at hu; rcases hu with rfl | rfl <;> rfl) (by (repeat first | exact Put.head _ _ _ | apply Put.tail)) (by simp [flatten_rep_length]; omega)) ?_
        rintro _ _ ⟨rfl, rfl⟩
        refine TO.nil ?_
        refine TQ.nn ?_
        refine T.seq ?_
        refine T.drawL [8] mixed (by repeat first | exact Calm.rt | apply Calm.t | apply Calm.b | apply Calm.l | apply Calm.ct) ?_
        refine TR.p 0 rfl (by kernel_rfl) (DP.mv (by conv => lhs; whnf)) ?_
        refine TR.p 1 rfl (by kernel_rfl) (DP.mv (by conv => lhs; whnf)) ?_
        refine TR.p 2 rfl (by kernel_rfl) (DP.mv (by conv => lhs; whnf)) ?_
        refine TR.p 3 rfl (by kernel_rfl) (DP.add rfl rfl (l := 9223372036854775808) rfl (by omega)) ?_
        refine TR.p 4 rfl (by kernel_rfl) (DP.to (v' := .slice (some ⟨nb, (i + 1) * 2, none⟩) (n + 1 - (i + 1)) (n + 1 + k2 - (i + 1))) (DP.slSl rfl rfl Try.underlying36 sz42 (by omega)) (by rw [if_neg (by omega)]; simp)) ?_
        refine TR.p 5 rfl (by kernel_rfl) (DP.mv (by conv => lhs; whnf)) ?_
        refine TR.p 6 rfl (by kernel_rfl) (DP.mv (by conv => lhs; whnf)) ?_
        refine TR.p 7 rfl (by kernel_rfl) (DP.to (v' := .slice (some ⟨b, i * 2, none⟩) (n - i) (n + k - i)) (DP.slSl rfl rfl Try.underlying36 sz42 (by omega)) (by rw [if_neg (by omega)]; simp)) ?_
        refine TR.n 8 (by kernel_rfl) rfl (N.cp (news := Y) rfl rfl Try.underlying36 sz42 (Src.sl Try.underlying36 hY (by (repeat first | exact LMem.head _ _ | apply LMem.tail)) (ReadsN.row (fun j u hu => by rw [List.append_assoc, List.getElem?_append_right (by omega), List.getElem?_append_left (by rcases Nat.lt_or_ge j Y.length with h | h; omega; rw [List.getElem?_eq_none h] at hu; cases hu), show i * 2 + j - X.length = j by omega]; exact hu))) honeY (by (repeat first | exact Put.head _ _ _ | apply Put.tail)) (by rw [length_setAll]; simp [flatten_rep_length]; omega)) ?_
        rintro _ _ ⟨rfl, rfl⟩
        refine ⟨.inl rfl, ?_⟩
        refine TR.done (by kernel_rfl) ?_
        refine TQ.nn ?_
        refine T.seq ?_
        refine T.reg ?_
        refine TO.p (DP.mv (by conv => lhs; whnf)) ?_
        refine TO.p (DP.as (by conv => lhs; whnf)) ?_
        refine TO.nil ?_
        refine TQ.nn ?_
        refine T.ret ?_
        refine TQ.nr ?_
        refine TQ.ret (vs := [.slice (some ⟨nb, 0, none⟩) (n + 1) (n + 1 + k2)]) (L' := [_]) rfl ⟨rfl, rfl⟩ ?_ (by (refine Ent.imp ?_; repeat first | exact Imp.refl _ | exact Imp.nil _ | (apply Imp.pull; focus ((repeat first | exact Del.head _ _ | apply Del.tail); done)) | (apply Imp.row; focus ((repeat first | exact Del.head _ _ | apply Del.tail); done)) | apply Imp.drop))
        refine ⟨nb, k2, rest2, rfl, hr2, congrArg (fun z => [row 42 nb z]) ?_⟩
        have h1 := ins_cells2 (X := X) (Y := Y) (r := rest2) (s := [.int .u32 a, .int .u32 l]) (z := (List.replicate (n + 1 - i) [Value.int .u32 0, Value.int .u32 0]).flatten) (by rw [flatten_rep_length]; simp; omega)
        rw [show min 1 (n + 1 - i) = 1 by omega, show min (n - i) (n + 1 - (i + 1)) = n - i by omega, show (n - i) * (1 + 1) = Y.length by omega, List.take_length, show (i + 1) * 2 = X.length + 2 by omega, ← hX]
        exact h1
      · exact absurd (by omega) hc2

theorem spans_split (ss : List Spn) (i : Nat) : spans ss = spans (ss.take i) ++ spans (ss.drop i) := by
  rw [← List.flatMap_append, List.take_append_drop]
theorem insert_spec (vb i a l : Nat) (v : Value) (ss : List Spn) (hn : ss.length ≤ 1048576) (hi : i ≤ ss.length) :
    Sat Try.prog 45 [v, .int .i64 i, .slice (some ⟨vb, 0, none⟩) 1 1] [sl 42 2 v ss.length (spans ss), pt vb (.cells #[.int .u32 a, .int .u32 l] 42 (0, 0))]
      (fun u L' => L' = [sl 42 2 u (ss.take i ++ (a, l) :: ss.drop i).length (spans (ss.take i ++ (a, l) :: ss.drop i))]) := by
  have hsp : spans (ss.take i ++ (a, l) :: ss.drop i) = spans (ss.take i) ++ [.int .u32 a, .int .u32 l] ++ spans (ss.drop i) := by
    simp [spv]
  have hll : (ss.take i ++ (a, l) :: ss.drop i).length = ss.length + 1 := by simp; omega
  rw [hsp, hll]
  refine Sat.open_sl ?_ ?_
  · rintro rfl hn0 hx
    have hs0 : ss = [] := List.eq_nil_of_length_eq_zero hn0
    subst hs0
    obtain rfl : i = 0 := by simpa using hi
    exact ins_nil vb a l
  · rintro b k rest rfl hx hr
    by_cases hin : i = ss.length
    · subst hin
      have := ins_end b ss.length k vb a l (spans ss) rest hn hx hr
      simpa using this
    · have hX : (spans (ss.take i)).length = i * 2 := by rw [flat_len spv_len]; simp; omega
      have hY : (spans (ss.drop i)).length = (ss.length - i) * 2 := by rw [flat_len spv_len]; simp
      rw [spans_split ss i] at hx ⊢
      have hoY : ∀ u ∈ spans (ss.drop i), u.oneCell' = true := one_spans _
      by_cases hk : k = 0
      · refine (ins_grow b ss.length k i vb a l _ _ rest hn (by omega) hX hY hr hoY hk).post ?_
        rintro u L' ⟨nb, k2, rest2, rfl, hr2, rfl⟩
        exact ⟨_, Imp.sl (Del.head _ _) (by simp only [List.length_append, hX, hY, List.length_cons, List.length_nil]; omega) hr2 (Imp.refl _), rfl⟩
      · refine (ins_room b ss.length k i vb a l _ _ rest hn (by omega) hX hY hr hoY (by omega)).post ?_
        rintro u L' ⟨rfl, rfl⟩
        exact ⟨_, Imp.sl (Del.head _ _) (by simp only [List.length_append, hX, hY, List.length_cons, List.length_nil]; omega) (by simp; omega) (Imp.refl _), rfl⟩

theorem del_row (b n k i : Nat) (X s Z rest : List Value) (hn : n ≤ 2097152) (hi : i < n) (hX : X.length = i * 2) (hs : s.length = 2) (hZ : Z.length = (n - (i + 1)) * 2) (hr : rest.length = k * 2) (hone : ∀ u ∈ Z, u.oneCell' = true) :
    Sat Try.prog 47 [.slice (some ⟨b, 0, none⟩) n (n + k), .int .i64 i, .int .i64 (i + 1 : Nat)] [row 42 b (X ++ s ++ Z ++ rest)]
      (fun u L' => u = .slice (some ⟨b, 0, none⟩) (n - 1) (n - 1 + (k + 1)) ∧ L' = [row 42 b (X ++ Z ++ ([.int .u32 0, .int .u32 0] ++ rest))]) := by
  refine Sat.enter Try.func47 rfl Try.ntmps47 rfl (fun c R => ?_)
  try simp only [List.cons_append, List.nil_append]
  refine T.seq ?_
  refine T.reg ?_
  refine TO.p (DP.as (by conv => lhs; whnf)) ?_
  refine TO.nil ?_
  refine TQ.nn ?_
  refine T.seq ?_
  refine T.reg ?_
  refine TO.p (DP.mv (by conv => lhs; whnf)) ?_
  refine TO.p (DP.mv (by conv => lhs; whnf)) ?_
  refine TO.p (DP.mv (by conv => lhs; whnf)) ?_
  refine TO.p (DP.mv (by conv => lhs; whnf)) ?_
  refine TO.p (DP.lenS rfl Try.underlying36) ?_
  refine TO.p (DP.slSm rfl rfl rfl rfl Try.underlying36 sz42 (by omega) (by omega) (by omega)) ?_
  refine TO.nil ?_
  refine TQ.nn ?_
  refine T.seq ?_
  refine T.seq ?_
  refine T.reg ?_
  refine TO.p (DP.mv (by conv => lhs; whnf)) ?_
  refine TO.p (DP.mv (by conv => lhs; whnf)) ?_
  refine TO.p (DP.eql rfl rfl) ?_
  refine TO.nil ?_
  refine TQ.nn ?_
  refine T.condD rfl (fun hc0 => ?_) (fun hc0 => ?_)
  · exact absurd hc0 (by omega)
  · refine T.skip ?_
    refine TQ.nn ?_
    refine T.seq ?_
    refine T.reg ?_
    refine TO.p (DP.mv (by conv => lhs; whnf)) ?_
    refine TO.p (DP.lenS rfl Try.underlying36) ?_
    refine TO.p (DP.as (by conv => lhs; whnf)) ?_
    refine TO.nil ?_
    refine TQ.nn ?_
    refine T.seq ?_
    refine T.drawL [6] mixed (by repeat first | exact Calm.rt | apply Calm.t | apply Calm.b | apply Calm.l | apply Calm.ct) ?_
    refine TR.p 0 rfl (by kernel_rfl) (DP.mv (by conv => lhs; whnf)) ?_
    refine TR.p 1 rfl (by kernel_rfl) (DP.mv (by conv => lhs; whnf)) ?_
    refine TR.p 2 rfl (by kernel_rfl) (DP.slSh rfl rfl Try.underlying36 sz42 (by omega)) ?_
    refine TR.p 3 rfl (by kernel_rfl) (DP.mv (by conv => lhs; whnf)) ?_
    refine TR.p 4 rfl (by kernel_rfl) (DP.mv (by conv => lhs; whnf)) ?_
    refine TR.p 5 rfl (by kernel_rfl) (DP.slSl rfl rfl Try.underlying36 sz42 (by omega)) ?_
    refine TR.n 6 (by kernel_rfl) rfl (N.appIn (news := Z) rfl rfl Try.underlying36 sz42 (Src.sl Try.underlying36 hZ (by (repeat first | exact LMem.head _ _ | apply LMem.tail)) (ReadsN.row (fun j u hu => by have hj : j < Z.length := (by rcases Nat.lt_or_ge j Z.length with h | h; exact h; rw [List.getElem?_eq_none h] at hu; cases hu); rw [if_neg (by omega), List.append_assoc, List.getElem?_append_right (by simp; omega), List.getElem?_append_left (by simp; omega)]; simp only [List.length_append]; rw [show 0 + (i + 1) * (1 + 1) + j - (X.length + s.length) = j by omega]; exact hu))) hone (by omega) (by (repeat first | exact Put.head _ _ _ | apply Put.tail)) (by simp only [List.length_append]; omega)) ?_
    rintro _ _ ⟨rfl, rfl⟩
    refine ⟨.inl rfl, ?_⟩
    refine TR.p 7 rfl (by kernel_rfl) (DP.as (by conv => lhs; whnf)) ?_
    refine TR.done (by kernel_rfl) ?_
    refine TQ.nn ?_
    refine T.seq ?_
    refine T.reg ?_
    refine TO.p (DP.mv (by conv => lhs; whnf)) ?_
    refine TO.p (DP.mv (by conv => lhs; whnf)) ?_
    refine TO.p (DP.lenS rfl Try.underlying36) ?_
    refine TO.p (DP.mv (by conv => lhs; whnf)) ?_
    refine TO.p (DP.to (v' := .slice (some ⟨b, (n - 1) * 2, none⟩) (0 + 1) (n + k - (n - 1))) (DP.slS rfl rfl rfl Try.underlying36 sz42 (by omega) (by omega)) (by rw [if_neg (by omega), show i + (n - (i + 1)) = n - 1 by omega, show n - (n - 1) = 0 + 1 by omega]; simp)) ?_
    refine TO.n0 (N.clr rfl Try.underlying36 zr42 rfl rfl (by simp [Value.oneCell']) (by (repeat first | exact Put.head _ _ _ | apply Put.tail)) (by simp [length_setAll]; omega)) ?_
    rintro _ _ ⟨rfl, rfl⟩
    refine TO.nil ?_
    refine TQ.nn ?_
    refine T.seq ?_
    refine T.reg ?_
    refine TO.p (DP.mv (by conv => lhs; whnf)) ?_
    refine TO.p (DP.as (by conv => lhs; whnf)) ?_
    refine TO.nil ?_
    refine TQ.nn ?_
    refine T.ret ?_
    refine TQ.ret (vs := [.slice (some ⟨b, 0, none⟩) (n - 1) (n - 1 + (k + 1))]) (L' := [_]) rfl ⟨by rw [show n - 1 + (k + 1) = n + k by omega, show n - 1 = i + (n - (i + 1)) by omega]; rfl, rfl⟩ ?_ (by (refine Ent.imp ?_; repeat first | exact Imp.refl _ | exact Imp.nil _ | (apply Imp.pull; focus ((repeat first | exact Del.head _ _ | apply Del.tail); done)) | (apply Imp.row; focus ((repeat first | exact Del.head _ _ | apply Del.tail); done)) | apply Imp.drop))
    refine ⟨rfl, congrArg (fun z => [row 42 b z]) ?_⟩
    have h1 := del_cells (X := X) (s := s) (Z := Z) (r := rest) (z := [.int .u32 0, .int .u32 0]) (by simp [hs])
    rw [show (n - 1) * 2 = X.length + Z.length by omega, show 0 + i * (1 + 1) = X.length by omega]
    exact h1

theorem delete_spec (i : Nat) (v : Value) (ss : List Spn) (hn : ss.length ≤ 2097152) (hi : i < ss.length) :
    Sat Try.prog 47 [v, .int .i64 i, .int .i64 (i + 1 : Nat)] [sl 42 2 v ss.length (spans ss)]
      (fun u L' => L' = [sl 42 2 u (ss.take i ++ ss.drop (i + 1)).length (spans (ss.take i ++ ss.drop (i + 1)))]) := by
  have hsp : spans (ss.take i ++ ss.drop (i + 1)) = spans (ss.take i) ++ spans (ss.drop (i + 1)) := by simp
  have hll : (ss.take i ++ ss.drop (i + 1)).length = ss.length - 1 := by simp; omega
  rw [hsp, hll]
  refine Sat.open_sl (fun _ h0 _ => by omega) ?_
  rintro b k rest rfl hx hr
  obtain ⟨s, hs⟩ := get_some hi
  have he : spans ss = spans (ss.take i) ++ spv s ++ spans (ss.drop (i + 1)) := by
    have h1 : ss = ss.take i ++ s :: ss.drop (i + 1) := by
      have h2 := List.take_append_drop i ss
      have h3 : ss.drop i = s :: ss.drop (i + 1) := by
        rw [List.getElem?_eq_getElem hi] at hs
        rw [List.drop_eq_getElem_cons hi]; simp at hs; rw [hs]
      rw [h3] at h2; exact h2.symm
    conv => lhs; rw [h1]
    simp
  have hX : (spans (ss.take i)).length = i * 2 := by rw [flat_len spv_len]; simp; omega
  have hZ : (spans (ss.drop (i + 1))).length = (ss.length - (i + 1)) * 2 := by rw [flat_len spv_len]; simp
  rw [he]
  refine (del_row b ss.length k i _ _ _ rest hn hi hX rfl hZ hr (one_spans _)).post ?_
  rintro u L' ⟨rfl, rfl⟩
  exact ⟨_, Imp.sl (Del.head _ _) (by simp only [List.length_append, hX, hZ]; omega) (by simp; omega) (Imp.refl _), rfl⟩

theorem bsf_spec (v : Value) (ss : List Spn) (a l : Nat) (hlen : ss.length ≤ 1048576) (hb : ∀ s ∈ ss, s.1 < 4294967296) (ha : a < 4294967296)
    (hsort : ∀ (m h : Nat) (x y : Spn), m ≤ h → ss[m]? = some x → ss[h]? = some y → x.1 ≤ y.1) :
    Sat Try.prog 43 [v, .agg #[.int .u32 a, .int .u32 l], .func (.func 44) #[] #[]] [sl 42 2 v ss.length (spans ss)]
      (fun u L' => ∃ (i : Nat) (fd : Bool), u = .tuple #[.int .i64 i, .bool fd] ∧ i ≤ ss.length ∧ (∀ s ∈ ss.take i, s.1 < a) ∧ (∀ s ∈ ss.drop i, a ≤ s.1) ∧ L' = [sl 42 2 v ss.length (spans ss)]) := by
  refine Sat.enter Try.func43 rfl Try.ntmps43 rfl (fun c R => ?_)
  try simp only [List.cons_append, List.nil_append]
  refine T.seq ?_
  refine T.reg ?_
  refine TO.n (N.bxA rfl) ?_
  rintro _ _ ⟨b4, rfl, rfl⟩
  refine TO.p (DP.as (by conv => lhs; whnf)) ?_
  refine TO.p (DP.as (by conv => lhs; whnf)) ?_
  refine TO.nil ?_
  refine TQ.nn ?_
  refine T.seq ?_
  refine T.reg ?_
  refine TO.p (DP.mv (by conv => lhs; whnf)) ?_
  refine TO.d (D.lenO (by conv => lhs; whnf) Try.underlying36 (by (repeat first | exact LMem.head _ _ | apply LMem.tail))) ?_
  refine TO.p (DP.as (by conv => lhs; whnf)) ?_
  refine TO.nil ?_
  refine TQ.nn ?_
  refine T.seq ?_
  refine T.reg ?_
  refine TO.p (DP.mv (by conv => lhs; whnf)) ?_
  refine TO.p (DP.as (by conv => lhs; whnf)) ?_
  refine TO.p (DP.as (by conv => lhs; whnf)) ?_
  refine TO.nil ?_
  refine TQ.nn ?_
  refine T.seq ?_
  refine T.block ?_
  refine T.loop (S := Nat × Nat) (0, ss.length) (fun ⟨i, j⟩ => [(0, v), (2, .func (.func 44) #[] #[]), (4, .pointer (some ⟨b4, 0, none⟩)), (8, .int .i64 (ss.length : Nat)), (9, .int .i64 (i : Nat)), (10, .int .i64 (j : Nat))]) (fun ⟨i, j⟩ => row 42 b4 [.int .u32 a, .int .u32 l] :: sl 42 2 v ss.length (spans ss) :: R) (fun ⟨i, j⟩ => i ≤ j ∧ j ≤ ss.length ∧ (∀ s ∈ ss.take i, s.1 < a) ∧ (∀ s ∈ ss.drop j, a ≤ s.1)) (fun ⟨i, j⟩ => j - i) ?_ ?_ ?_ ?_
  · (repeat first | exact trivial | refine ⟨rfl, ?_⟩)
  · exact ⟨Nat.zero_le _, Nat.le_refl _, by simp, by simp⟩
  · exact Ent.refl _ _
  rintro ⟨i, j⟩ g hI
  try dsimp only
  refine T.seq ?_
  refine T.seq ?_
  refine T.reg ?_
  refine TO.p (DP.mv (by conv => lhs; whnf)) ?_
  refine TO.p (DP.mv (by conv => lhs; whnf)) ?_
  refine TO.p (DP.lss rfl rfl) ?_
  refine TO.nil ?_
  refine TQ.nn ?_
  refine T.condD rfl (fun hc0 => ?_) (fun hc0 => ?_)
  · obtain ⟨hI1, hI2, hI3, hI4⟩ := hI
    obtain ⟨h, hh⟩ : ∃ h, h = (i + j) / 2 := ⟨_, rfl⟩
    obtain ⟨s, hs⟩ := get_some (l := ss) (i := h) (by omega)
    have hsb := hb s (mem_of_get hs)
    have hus := flat_elem spv_len hs
    refine T.skip ?_
    refine TQ.nn ?_
    refine T.block ?_
    refine T.seq ?_
    refine T.reg ?_
    refine TO.p (DP.mv (by conv => lhs; whnf)) ?_
    refine TO.p (DP.mv (by conv => lhs; whnf)) ?_
    refine TO.p (DP.add rfl rfl (l := 9223372036854775808) rfl (by omega)) ?_
    refine TO.p (DP.cv rfl is3 Try.underlying107 (l := 18446744073709551616) rfl (by omega)) ?_
    refine TO.p (DP.to (v' := .int .u64 (h : Nat)) (DP.shr (b := 1) rfl rfl (l := 18446744073709551616) rfl (by omega)) (by rw [hh])) ?_
    refine TO.p (DP.cv rfl is107 Try.underlying3 (l := 9223372036854775808) rfl (by omega)) ?_
    refine TO.p (DP.as (by conv => lhs; whnf)) ?_
    refine TO.nil ?_
    refine TQ.nn ?_
    refine T.seq ?_
    refine T.drawL [6] mixed (by repeat first | exact Calm.rt | apply Calm.t | apply Calm.b | apply Calm.l | apply Calm.ct) ?_
    refine TR.p 0 rfl (by kernel_rfl) (DP.mv (by conv => lhs; whnf)) ?_
    refine TR.p 1 rfl (by kernel_rfl) (DP.mv (by conv => lhs; whnf)) ?_
    refine TR.p 2 rfl (by kernel_rfl) (DP.mv (by conv => lhs; whnf)) ?_
    refine TR.d 3 rfl (by kernel_rfl) (by kernel_rfl) (by (refine Ent.imp ?_; repeat first | exact Imp.refl _ | exact Imp.nil _ | (apply Imp.pull; focus ((repeat first | exact Del.head _ _ | apply Del.tail); done)) | (apply Imp.row; focus ((repeat first | exact Del.head _ _ | apply Del.tail); done)) | apply Imp.drop)) (D.iasO (by conv => lhs; whnf) rfl Try.underlying36 sz42 (by (repeat first | exact LMem.head _ _ | apply LMem.tail)) (by omega)) ?_
    refine TR.d 4 rfl (by kernel_rfl) (by kernel_rfl) (by (refine Ent.imp ?_; repeat first | exact Imp.refl _ | exact Imp.nil _ | (apply Imp.pull; focus ((repeat first | exact Del.head _ _ | apply Del.tail); done)) | (apply Imp.row; focus ((repeat first | exact Del.head _ _ | apply Del.tail); done)) | apply Imp.drop)) (D.ldOA (us := [.int .u32 s.1, .int .u32 s.2]) (by conv => lhs; whnf) ag42 sz42 (by (repeat first | exact LMem.head _ _ | apply LMem.tail)) (by omega) hus rfl) ?_
    refine TR.d 5 rfl (by kernel_rfl) (by kernel_rfl) (by (refine Ent.imp ?_; repeat first | exact Imp.refl _ | exact Imp.nil _ | (apply Imp.pull; focus ((repeat first | exact Del.head _ _ | apply Del.tail); done)) | (apply Imp.row; focus ((repeat first | exact Del.head _ _ | apply Del.tail); done)) | apply Imp.drop)) (D.ldRA rfl ag42 sz42 (by (repeat first | exact LMem.head _ _ | apply LMem.tail)) (by rfl)) ?_
    refine TR.n 6 (by kernel_rfl) rfl (N.callC 2 (cmp_spec s.1 s.2 a l hsb ha) Try.call44 rfl ⟨rfl, rfl, trivial⟩ (by (repeat first | exact Pick.nil _ | (apply Pick.cons; focus ((repeat first | exact Del.head _ _ | apply Del.tail); done))))) ?_
    rintro u30 _ ⟨_, ⟨rfl, rfl⟩, rfl⟩
    try simp only [List.cons_append, List.nil_append]
    refine ⟨.inl rfl, ?_⟩
    refine TR.p 7 rfl (by kernel_rfl) (DP.lssI rfl rfl) ?_
    refine TR.done (by kernel_rfl) ?_
    refine TQ.nn ?_
    refine T.condD rfl (fun hc1 => ?_) (fun hc1 => ?_)
    · have hN : ∀ s ∈ ss.take (h + 1), s.1 < a := fun x hx => by
        obtain ⟨m, hm⟩ := List.mem_iff_getElem?.1 hx
        rw [List.getElem?_take] at hm
        split at hm
        · have := hsort m h x s (by omega) hm hs; omega
        · cases hm
      have hIn : h + 1 ≤ j ∧ j ≤ ss.length ∧ (∀ s ∈ ss.take (h + 1), s.1 < a) ∧ (∀ s ∈ ss.drop j, a ≤ s.1) := ⟨by omega, hI2, hN, hI4⟩
      refine T.reg ?_
      refine TO.p (DP.mv (by conv => lhs; whnf)) ?_
      refine TO.p (DP.add (b := 1) rfl rfl (l := 9223372036854775808) rfl (by omega)) ?_
      refine TO.p (DP.as (by conv => lhs; whnf)) ?_
      refine TO.nil ?_
      refine TQ.bn ?_
      refine TQ.round (h + 1, j) rfl ?_ ?_ ?_ ?_
      · (repeat first | exact trivial | refine ⟨rfl, ?_⟩)
      · exact hIn
      · (simp only; omega)
      · exact Ent.refl _ _
    · have hN : ∀ s ∈ ss.drop h, a ≤ s.1 := fun x hx => by
        obtain ⟨m, hm⟩ := List.mem_iff_getElem?.1 hx
        rw [List.getElem?_drop] at hm
        have := hsort h (h + m) s x (by omega) hs hm; omega
      have hIn : i ≤ h ∧ h ≤ ss.length ∧ (∀ s ∈ ss.take i, s.1 < a) ∧ (∀ s ∈ ss.drop h, a ≤ s.1) := ⟨by omega, by omega, hI3, hN⟩
      refine T.reg ?_
      refine TO.p (DP.mv (by conv => lhs; whnf)) ?_
      refine TO.p (DP.as (by conv => lhs; whnf)) ?_
      refine TO.nil ?_
      refine TQ.bn ?_
      refine TQ.round (i, h) rfl ?_ ?_ ?_ ?_
      · (repeat first | exact trivial | refine ⟨rfl, ?_⟩)
      · exact hIn
      · (simp only; omega)
      · exact Ent.refl _ _
  · obtain ⟨hI1, hI2, hI3, hI4⟩ := hI
    obtain rfl : i = j := by omega
    refine T.exit ?_
    refine TQ.ne ?_
    refine TQ.le ?_
    refine TQ.be ?_
    refine TQ.nn ?_
    refine T.seq ?_
    refine T.drawL [11] mixed (by repeat first | exact Calm.rt | apply Calm.t | apply Calm.b | apply Calm.l | apply Calm.ct) ?_
    refine TR.p 0 rfl (by kernel_rfl) (DP.mv (by conv => lhs; whnf)) ?_
    refine TR.p 1 rfl (by kernel_rfl) (DP.mv (by conv => lhs; whnf)) ?_
    refine TR.p 2 rfl (by kernel_rfl) (DP.mv (by conv => lhs; whnf)) ?_
    refine TR.p 3 rfl (by kernel_rfl) (DP.lss rfl rfl) ?_
    refine TR.pB 4 rfl (by kernel_rfl) (DP.mv (by conv => lhs; whnf)) (fun hg39 => ?_) (fun hg39 => ?_)
    · obtain ⟨s, hs⟩ := get_some (l := ss) (i := i) hg39
      have hsb := hb s (mem_of_get hs)
      have hus := flat_elem spv_len hs
      refine TR.pon 5 rfl (by kernel_rfl) rfl (DP.mv (by conv => lhs; whnf)) ?_
      refine TR.pon 6 rfl (by kernel_rfl) rfl (DP.mv (by conv => lhs; whnf)) ?_
      refine TR.pon 7 rfl (by kernel_rfl) rfl (DP.mv (by conv => lhs; whnf)) ?_
      refine TR.don 8 rfl (by kernel_rfl) (by kernel_rfl) (by (refine Ent.imp ?_; repeat first | exact Imp.refl _ | exact Imp.nil _ | (apply Imp.pull; focus ((repeat first | exact Del.head _ _ | apply Del.tail); done)) | (apply Imp.row; focus ((repeat first | exact Del.head _ _ | apply Del.tail); done)) | apply Imp.drop)) rfl (D.iasO (by conv => lhs; whnf) rfl Try.underlying36 sz42 (by (repeat first | exact LMem.head _ _ | apply LMem.tail)) (by omega)) ?_
      refine TR.don 9 rfl (by kernel_rfl) (by kernel_rfl) (by (refine Ent.imp ?_; repeat first | exact Imp.refl _ | exact Imp.nil _ | (apply Imp.pull; focus ((repeat first | exact Del.head _ _ | apply Del.tail); done)) | (apply Imp.row; focus ((repeat first | exact Del.head _ _ | apply Del.tail); done)) | apply Imp.drop)) rfl (D.ldOA (us := [.int .u32 s.1, .int .u32 s.2]) (by conv => lhs; whnf) ag42 sz42 (by (repeat first | exact LMem.head _ _ | apply LMem.tail)) (by omega) hus rfl) ?_
      refine TR.don 10 rfl (by kernel_rfl) (by kernel_rfl) (by (refine Ent.imp ?_; repeat first | exact Imp.refl _ | exact Imp.nil _ | (apply Imp.pull; focus ((repeat first | exact Del.head _ _ | apply Del.tail); done)) | (apply Imp.row; focus ((repeat first | exact Del.head _ _ | apply Del.tail); done)) | apply Imp.drop)) rfl (D.ldRA rfl ag42 sz42 (by (repeat first | exact LMem.head _ _ | apply LMem.tail)) (by rfl)) ?_
      refine TR.non 11 (by kernel_rfl) rfl rfl (N.callC 2 (cmp_spec s.1 s.2 a l hsb ha) Try.call44 rfl ⟨rfl, rfl, trivial⟩ (by (repeat first | exact Pick.nil _ | (apply Pick.cons; focus ((repeat first | exact Del.head _ _ | apply Del.tail); done))))) ?_
      rintro u46 _ ⟨_, ⟨rfl, rfl⟩, rfl⟩
      try simp only [List.cons_append, List.nil_append]
      refine ⟨.inl rfl, ?_⟩
      refine TR.pon 12 rfl (by kernel_rfl) rfl (DP.eqlI rfl rfl) ?_
      refine TR.p 13 rfl (by kernel_rfl) (DP.pkT rfl (by conv => lhs; whnf)) ?_
      refine TR.p 14 rfl (by kernel_rfl) (DP.as (by conv => lhs; whnf)) ?_
      refine TR.p 15 rfl (by kernel_rfl) (DP.as (by conv => lhs; whnf)) ?_
      refine TR.done (by kernel_rfl) ?_
      refine TQ.nn ?_
      refine T.ret ?_
      refine TQ.ret (vs := [.int .i64 (i : Nat), .bool _]) (L' := [_]) rfl ⟨rfl, rfl, rfl⟩ ⟨i, _, rfl, hI2, hI3, hI4, rfl⟩ (by (refine Ent.imp ?_; repeat first | exact Imp.refl _ | exact Imp.nil _ | (apply Imp.pull; focus ((repeat first | exact Del.head _ _ | apply Del.tail); done)) | (apply Imp.row; focus ((repeat first | exact Del.head _ _ | apply Del.tail); done)) | apply Imp.drop))
    · refine TR.off 5 rfl (by kernel_rfl) rfl rfl ?_
      refine TR.off 6 rfl (by kernel_rfl) rfl rfl ?_
      refine TR.off 7 rfl (by kernel_rfl) rfl rfl ?_
      refine TR.off 8 rfl (by kernel_rfl) rfl rfl ?_
      refine TR.off 9 rfl (by kernel_rfl) rfl rfl ?_
      refine TR.off 10 rfl (by kernel_rfl) rfl rfl ?_
      refine TR.off 11 rfl (by kernel_rfl) rfl rfl ?_
      refine TR.off 12 rfl (by kernel_rfl) rfl rfl ?_
      refine TR.p 13 rfl (by kernel_rfl) (DP.pkF rfl (by conv => lhs; whnf)) ?_
      refine TR.p 14 rfl (by kernel_rfl) (DP.as (by conv => lhs; whnf)) ?_
      refine TR.p 15 rfl (by kernel_rfl) (DP.as (by conv => lhs; whnf)) ?_
      refine TR.done (by kernel_rfl) ?_
      refine TQ.nn ?_
      refine T.ret ?_
      refine TQ.ret (vs := [.int .i64 (i : Nat), .bool _]) (L' := [_]) rfl ⟨rfl, rfl, rfl⟩ ⟨i, _, rfl, hI2, hI3, hI4, rfl⟩ (by (refine Ent.imp ?_; repeat first | exact Imp.refl _ | exact Imp.nil _ | (apply Imp.pull; focus ((repeat first | exact Del.head _ _ | apply Del.tail); done)) | (apply Imp.row; focus ((repeat first | exact Del.head _ _ | apply Del.tail); done)) | apply Imp.drop))
end Go.Proofs.Ytpidkdkbgjnhlaa
