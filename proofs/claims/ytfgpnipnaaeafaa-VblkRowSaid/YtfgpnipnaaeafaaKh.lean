/- Lemmas for the proofs of this seat: no statement of the seat is claimed here. -/
import Derived.Test.YtfgpnipnaaeafaaKd
import Derived.Test.YtfgpnipnaaeafaaKg
set_option linter.all false

namespace Go.Proofs.Ytfgpnipnaaeafaa
open Go Pw
set_option maxRecDepth 20000
theorem ins_nil (vb a l : Nat) :
    Sat Try.prog 64 [.slice none 0 0, .int .i64 (0 : Nat), .slice (some ⟨vb, 0, none⟩) 1 1] [pt vb (.cells #[.int .u32 a, .int .u32 l] 110 (0, 0))] (fun u L' => L' = [sl 110 2 u 1 [.int .u32 a, .int .u32 l]]) := by
  refine Sat.enter Try.func64 rfl Try.ntmps64 rfl (fun c R => ?_)
  try simp only [List.cons_append, List.nil_append]
  refine T.seq ?_
  refine T.reg ?_
  refine TO.p (DP.as (by conv => lhs; whnf)) ?_
  refine TO.nil ?_
  refine TQ.nn ?_
  refine T.seq ?_
  refine T.reg ?_
  refine TO.p (DP.mv (by conv => lhs; whnf)) ?_
  refine TO.p (DP.mv (by conv => lhs; whnf)) ?_
  refine TO.p (DP.slSl0 rfl rfl Try.underlying68 sz110) ?_
  refine TO.nil ?_
  refine TQ.nn ?_
  refine T.seq ?_
  refine T.reg ?_
  refine TO.p (DP.mv (by conv => lhs; whnf)) ?_
  refine TO.p (DP.lenS rfl Try.underlying68) ?_
  refine TO.p (DP.as (by conv => lhs; whnf)) ?_
  refine TO.nil ?_
  refine TQ.nn ?_
  refine T.seq ?_
  refine T.seq ?_
  refine T.reg ?_
  refine TO.p (DP.mv (by conv => lhs; whnf)) ?_
  refine TO.p (DP.eql (a := 1) (b := 0) rfl rfl) ?_
  refine TO.nil ?_
  refine TQ.nn ?_
  refine T.condD rfl (fun hc0 => ?_) (fun hc0 => ?_)
  · exact absurd hc0 (by decide)
  · refine T.skip ?_
    refine TQ.nn ?_
    refine T.seq ?_
    refine T.reg ?_
    refine TO.p (DP.mv (by conv => lhs; whnf)) ?_
    refine TO.p (DP.lenS rfl Try.underlying68) ?_
    refine TO.p (DP.as (by conv => lhs; whnf)) ?_
    refine TO.nil ?_
    refine TQ.nn ?_
    refine T.seq ?_
    refine T.seq ?_
    refine T.reg ?_
    refine TO.p (DP.mv (by conv => lhs; whnf)) ?_
    refine TO.p (DP.mv (by conv => lhs; whnf)) ?_
    refine TO.p (DP.eql (a := 0) (b := 0) rfl rfl) ?_
    refine TO.nil ?_
    refine TQ.nn ?_
    refine T.condD rfl (fun hc1 => ?_) (fun hc1 => ?_)
    · refine T.seq ?_
      refine T.ent (Ent.nil (e := 110) (sz := 2)) ?_
      refine T.reg ?_
      refine TO.p (DP.mv (by conv => lhs; whnf)) ?_
      refine TO.p (DP.mv (by conv => lhs; whnf)) ?_
      refine TO.n (N.app rfl rfl Try.underlying68 sz110 by110 zr110 rfl rfl (by (repeat first | exact Del.head _ _ | apply Del.tail)) (Src.sl (news := [.int .u32 a, .int .u32 l]) Try.underlying68 rfl (by (repeat first | exact LMem.head _ _ | apply LMem.tail)) (ReadsN.cells (fun i v hv => by simpa using hv))) (by intro u hu; simp at hu; rcases hu with rfl | rfl <;> rfl) (by omega)) ?_
      rintro v25 _ rfl
      refine TO.p (DP.as (by conv => lhs; whnf)) ?_
      refine TO.nil ?_
      refine TQ.nn ?_
      refine T.ret ?_
      refine TQ.nr ?_
      refine TQ.ret (vs := [v25]) (L' := [_]) rfl ⟨rfl, rfl⟩ rfl (by (refine Ent.imp ?_; repeat first | exact Imp.refl _ | exact Imp.nil _ | (apply Imp.pull; focus ((repeat first | exact Del.head _ _ | apply Del.tail); done)) | (apply Imp.row; focus ((repeat first | exact Del.head _ _ | apply Del.tail); done)) | apply Imp.drop))
    · exact absurd rfl hc1

theorem ins_end (b n k vb a l : Nat) (xs rest : List Value) (hn : n ≤ 1048576) (hx : xs.length = n * 2) (hr : rest.length = k * 2) :
    Sat Try.prog 64 [.slice (some ⟨b, 0, none⟩) n (n + k), .int .i64 n, .slice (some ⟨vb, 0, none⟩) 1 1] [row 110 b (xs ++ rest), pt vb (.cells #[.int .u32 a, .int .u32 l] 110 (0, 0))] (fun u L' => L' = [sl 110 2 u (n + 1) (xs ++ [.int .u32 a, .int .u32 l])]) := by
  refine Sat.enter Try.func64 rfl Try.ntmps64 rfl (fun c R => ?_)
  try simp only [List.cons_append, List.nil_append]
  refine T.seq ?_
  refine T.reg ?_
  refine TO.p (DP.as (by conv => lhs; whnf)) ?_
  refine TO.nil ?_
  refine TQ.nn ?_
  refine T.seq ?_
  refine T.reg ?_
  refine TO.p (DP.mv (by conv => lhs; whnf)) ?_
  refine TO.p (DP.mv (by conv => lhs; whnf)) ?_
  refine TO.p (DP.slSl rfl rfl Try.underlying68 sz110 (by omega)) ?_
  refine TO.nil ?_
  refine TQ.nn ?_
  refine T.seq ?_
  refine T.reg ?_
  refine TO.p (DP.mv (by conv => lhs; whnf)) ?_
  refine TO.p (DP.lenS rfl Try.underlying68) ?_
  refine TO.p (DP.as (by conv => lhs; whnf)) ?_
  refine TO.nil ?_
  refine TQ.nn ?_
  refine T.seq ?_
  refine T.seq ?_
  refine T.reg ?_
  refine TO.p (DP.mv (by conv => lhs; whnf)) ?_
  refine TO.p (DP.eql (a := 1) (b := 0) rfl rfl) ?_
  refine TO.nil ?_
  refine TQ.nn ?_
  refine T.condD rfl (fun hc0 => ?_) (fun hc0 => ?_)
  · exact absurd hc0 (by decide)
  · refine T.skip ?_
    refine TQ.nn ?_
    refine T.seq ?_
    refine T.reg ?_
    refine TO.p (DP.mv (by conv => lhs; whnf)) ?_
    refine TO.p (DP.lenS rfl Try.underlying68) ?_
    refine TO.p (DP.as (by conv => lhs; whnf)) ?_
    refine TO.nil ?_
    refine TQ.nn ?_
    refine T.seq ?_
    refine T.seq ?_
    refine T.reg ?_
    refine TO.p (DP.mv (by conv => lhs; whnf)) ?_
    refine TO.p (DP.mv (by conv => lhs; whnf)) ?_
    refine TO.p (DP.eql rfl rfl) ?_
    refine TO.nil ?_
    refine TQ.nn ?_
    refine T.condD rfl (fun hc1 => ?_) (fun hc1 => ?_)
    · refine T.seq ?_
      refine T.ent (Ent.imp (Imp.sl (k := k) (Del.head _ _) hx hr (Imp.refl _))) ?_
      refine T.reg ?_
      refine TO.p (DP.mv (by conv => lhs; whnf)) ?_
      refine TO.p (DP.mv (by conv => lhs; whnf)) ?_
      refine TO.n (N.app rfl rfl Try.underlying68 sz110 by110 zr110 rfl rfl (by (repeat first | exact Del.head _ _ | apply Del.tail)) (Src.sl (news := [.int .u32 a, .int .u32 l]) Try.underlying68 rfl (by (repeat first | exact LMem.head _ _ | apply LMem.tail)) (ReadsN.cells (fun i v hv => by simpa using hv))) (by intro u hu; simp at hu; rcases hu with rfl | rfl <;> rfl) (by omega)) ?_
      rintro v25 _ rfl
      refine TO.p (DP.as (by conv => lhs; whnf)) ?_
      refine TO.nil ?_
      refine TQ.nn ?_
      refine T.ret ?_
      refine TQ.nr ?_
      refine TQ.ret (vs := [v25]) (L' := [_]) rfl ⟨rfl, rfl⟩ rfl (by (refine Ent.imp ?_; repeat first | exact Imp.refl _ | exact Imp.nil _ | (apply Imp.pull; focus ((repeat first | exact Del.head _ _ | apply Del.tail); done)) | (apply Imp.row; focus ((repeat first | exact Del.head _ _ | apply Del.tail); done)) | apply Imp.drop))
    · exact absurd rfl hc1

theorem ins_room (b n k i vb a l : Nat) (X Y rest : List Value) (hn : n ≤ 1048576) (hi : i < n) (hX : X.length = i * 2) (hY : Y.length = (n - i) * 2) (hr : rest.length = k * 2) (honeY : ∀ u ∈ Y, u.oneCell' = true) (hk : 1 ≤ k) :
    Sat Try.prog 64 [.slice (some ⟨b, 0, none⟩) n (n + k), .int .i64 i, .slice (some ⟨vb, 0, none⟩) 1 1] [row 110 b (X ++ Y ++ rest), pt vb (.cells #[.int .u32 a, .int .u32 l] 110 (0, 0))] (fun u L' => u = .slice (some ⟨b, 0, none⟩) (n + 1) (n + 1 + (k - 1)) ∧ L' = [row 110 b (X ++ [.int .u32 a, .int .u32 l] ++ Y ++ rest.drop 2)]) := by
  refine Sat.enter Try.func64 rfl Try.ntmps64 rfl (fun c R => ?_)
  try simp only [List.cons_append, List.nil_append]
  refine T.seq ?_
  refine T.reg ?_
  refine TO.p (DP.as (by conv => lhs; whnf)) ?_
  refine TO.nil ?_
  refine TQ.nn ?_
  refine T.seq ?_
  refine T.reg ?_
  refine TO.p (DP.mv (by conv => lhs; whnf)) ?_
  refine TO.p (DP.mv (by conv => lhs; whnf)) ?_
  refine TO.p (DP.slSl rfl rfl Try.underlying68 sz110 (by omega)) ?_
  refine TO.nil ?_
  refine TQ.nn ?_
  refine T.seq ?_
  refine T.reg ?_
  refine TO.p (DP.mv (by conv => lhs; whnf)) ?_
  refine TO.p (DP.lenS rfl Try.underlying68) ?_
  refine TO.p (DP.as (by conv => lhs; whnf)) ?_
  refine TO.nil ?_
  refine TQ.nn ?_
  refine T.seq ?_
  refine T.seq ?_
  refine T.reg ?_
  refine TO.p (DP.mv (by conv => lhs; whnf)) ?_
  refine TO.p (DP.eql (a := 1) (b := 0) rfl rfl) ?_
  refine TO.nil ?_
  refine TQ.nn ?_
  refine T.condD rfl (fun hc0 => ?_) (fun hc0 => ?_)
  · exact absurd hc0 (by decide)
  · refine T.skip ?_
    refine TQ.nn ?_
    refine T.seq ?_
    refine T.reg ?_
    refine TO.p (DP.mv (by conv => lhs; whnf)) ?_
    refine TO.p (DP.lenS rfl Try.underlying68) ?_
    refine TO.p (DP.as (by conv => lhs; whnf)) ?_
    refine TO.nil ?_
    refine TQ.nn ?_
    refine T.seq ?_
    refine T.seq ?_
    refine T.reg ?_
    refine TO.p (DP.mv (by conv => lhs; whnf)) ?_
    refine TO.p (DP.mv (by conv => lhs; whnf)) ?_
    refine TO.p (DP.eql rfl rfl) ?_
    refine TO.nil ?_
    refine TQ.nn ?_
    refine T.condD rfl (fun hc1 => ?_) (fun hc1 => ?_)
    · exact absurd hc1 (by omega)
    · refine T.skip ?_
      refine TQ.nn ?_
      refine T.seq ?_
      refine T.seq ?_
      refine T.reg ?_
      refine TO.p (DP.mv (by conv => lhs; whnf)) ?_
      refine TO.p (DP.mv (by conv => lhs; whnf)) ?_
      refine TO.p (DP.add rfl rfl (l := 9223372036854775808) rfl (by omega)) ?_
      refine TO.p (DP.mv (by conv => lhs; whnf)) ?_
      refine TO.p (DP.capS rfl Try.underlying68) ?_
      refine TO.p (DP.gtr rfl rfl) ?_
      refine TO.nil ?_
      refine TQ.nn ?_
      refine T.condD rfl (fun hc2 => ?_) (fun hc2 => ?_)
      · exact absurd hc2 (by omega)
      · refine T.skip ?_
        refine TQ.nn ?_
        refine T.seq ?_
        refine T.reg ?_
        refine TO.p (DP.mv (by conv => lhs; whnf)) ?_
        refine TO.p (DP.mv (by conv => lhs; whnf)) ?_
        refine TO.p (DP.mv (by conv => lhs; whnf)) ?_
        refine TO.p (DP.add rfl rfl (l := 9223372036854775808) rfl (by omega)) ?_
        refine TO.p (DP.slSh rfl rfl Try.underlying68 sz110 (by omega)) ?_
        refine TO.p (DP.as (by conv => lhs; whnf)) ?_
        refine TO.nil ?_
        refine TQ.nn ?_
        refine T.seq ?_
        refine T.seq ?_
        refine T.reg ?_
        refine TO.p (DP.mv (by conv => lhs; whnf)) ?_
        refine TO.p (DP.mv (by conv => lhs; whnf)) ?_
        refine TO.p (DP.mv (by conv => lhs; whnf)) ?_
        refine TO.p (DP.mv (by conv => lhs; whnf)) ?_
        refine TO.p (DP.add rfl rfl (l := 9223372036854775808) rfl (by omega)) ?_
        refine TO.p (DP.to (v' := .slice (some ⟨b, (i + 1) * 2, none⟩) (n + 1 - (i + 1)) (n + k - (i + 1))) (DP.slSl rfl rfl Try.underlying68 sz110 (by omega)) (by rw [if_neg (by omega)]; simp)) ?_
        refine TO.d (D.ovl (tR := 4) rfl rfl Try.func79 (by kernel_rfl) (by kernel_rfl) (by kernel_rfl) (by kernel_rfl) Try.underlying68 sz110 (.cons (.tail (.head _ _)) (.cons (.head _ _) (.nil _))) (by intro h; have h2 := congrArg List.length h; simp only [List.length_append, List.length_nil] at h2; omega)) ?_
        refine TO.p (DP.not (b := false) rfl) ?_
        refine TO.nil ?_
        refine TQ.nn ?_
        refine T.condT rfl ?_
        refine T.seq ?_
        have hcpY : (((X ++ Y ++ rest).drop (i * 2)).take ((n + 1 - i) * 2)).take ((n - i) * (1 + 1)) = Y := by
          rw [List.take_take, Nat.min_eq_left (by omega), List.append_assoc, ← hX, List.drop_left, show (n - i) * (1 + 1) = Y.length by omega, List.take_left]
        refine T.drawL [8] mixed (by repeat first | exact Calm.rt | apply Calm.t | apply Calm.b | apply Calm.l | apply Calm.ct) ?_
        refine TR.p 0 rfl (by kernel_rfl) (DP.mv (by conv => lhs; whnf)) ?_
        refine TR.p 1 rfl (by kernel_rfl) (DP.mv (by conv => lhs; whnf)) ?_
        refine TR.p 2 rfl (by kernel_rfl) (DP.mv (by conv => lhs; whnf)) ?_
        refine TR.p 3 rfl (by kernel_rfl) (DP.add rfl rfl (l := 9223372036854775808) rfl (by omega)) ?_
        refine TR.p 4 rfl (by kernel_rfl) (DP.to (v' := .slice (some ⟨b, (i + 1) * 2, none⟩) (n + 1 - (i + 1)) (n + k - (i + 1))) (DP.slSl rfl rfl Try.underlying68 sz110 (by omega)) (by rw [if_neg (by omega)]; simp)) ?_
        refine TR.p 5 rfl (by kernel_rfl) (DP.mv (by conv => lhs; whnf)) ?_
        refine TR.p 6 rfl (by kernel_rfl) (DP.mv (by conv => lhs; whnf)) ?_
        refine TR.p 7 rfl (by kernel_rfl) (DP.to (v' := .slice (some ⟨b, i * 2, none⟩) (n + 1 - i) (n + k - i)) (DP.slSl rfl rfl Try.underlying68 sz110 (by omega)) (by rw [if_neg (by omega)]; simp)) ?_
        refine TR.n 8 (by kernel_rfl) rfl (N.cpT (news := ((X ++ Y ++ rest).drop (i * 2)).take ((n + 1 - i) * 2)) rfl rfl Try.underlying68 sz110 (Src.sl Try.underlying68 (by simp only [List.length_take, List.length_drop, List.length_append]; omega) (by (repeat first | exact LMem.head _ _ | apply LMem.tail)) (ReadsN.row drop_reads)) (by rw [show min (n + 1 - i) (n + 1 - (i + 1)) = n - i by omega, hcpY]; exact honeY) (by (repeat first | exact Put.head _ _ _ | apply Put.tail)) (by simp only [List.length_append]; omega)) ?_
        rintro _ _ ⟨rfl, rfl⟩
        refine ⟨.inl rfl, ?_⟩
        refine TR.done (by kernel_rfl) ?_
        refine TQ.nn ?_
        refine T.seq ?_
        refine T.reg ?_
        refine TO.p (DP.mv (by conv => lhs; whnf)) ?_
        refine TO.p (DP.mv (by conv => lhs; whnf)) ?_
        refine TO.p (DP.to (v' := .slice (some ⟨b, i * 2, none⟩) (n + 1 - i) (n + k - i)) (DP.slSl rfl rfl Try.underlying68 sz110 (by omega)) (by rw [if_neg (by omega)]; simp)) ?_
        refine TO.p (DP.mv (by conv => lhs; whnf)) ?_
        refine TO.n (N.cp rfl rfl Try.underlying68 sz110 (Src.sl (news := [.int .u32 a, .int .u32 l]) Try.underlying68 rfl (by (repeat first | exact LMem.head _ _ | apply LMem.tail)) (ReadsN.cells (fun i v hv => by simpa using hv))) (by intro u hu; simp at hu; rcases hu with rfl | rfl <;> rfl) (by (repeat first | exact Put.head _ _ _ | apply Put.tail)) (by rw [length_setAll]; simp; omega)) ?_
        rintro _ _ ⟨rfl, rfl⟩
        refine TO.nil ?_
        refine TQ.nn ?_
        refine T.seq ?_
        refine T.reg ?_
        refine TO.p (DP.mv (by conv => lhs; whnf)) ?_
        refine TO.p (DP.as (by conv => lhs; whnf)) ?_
        refine TO.nil ?_
        refine TQ.nn ?_
        refine T.ret ?_
        refine TQ.nr ?_
        refine TQ.ret (vs := [.slice (some ⟨b, 0, none⟩) (n + 1) (n + 1 + (k - 1))]) (L' := [_]) rfl ⟨by rw [show n + 1 + (k - 1) = n + k by omega]; rfl, rfl⟩ ?_ (by (refine Ent.imp ?_; repeat first | exact Imp.refl _ | exact Imp.nil _ | (apply Imp.pull; focus ((repeat first | exact Del.head _ _ | apply Del.tail); done)) | (apply Imp.row; focus ((repeat first | exact Del.head _ _ | apply Del.tail); done)) | apply Imp.drop))
        refine ⟨rfl, congrArg (fun z => [row 110 b z]) ?_⟩
        have h1 := ins_cells (X := X) (Y := Y) (r := rest) (s := [.int .u32 a, .int .u32 l]) (by simp; omega)
        rw [show min 1 (n + 1 - i) = 1 by omega, show min (n + 1 - i) (n + 1 - (i + 1)) = n - i by omega]
        rw [hcpY, show (i + 1) * 2 = X.length + 2 by omega, ← hX]
        exact h1

theorem ins_grow (b n k i vb a l : Nat) (X Y rest : List Value) (hn : n ≤ 1048576) (hi : i < n) (hX : X.length = i * 2) (hY : Y.length = (n - i) * 2) (hr : rest.length = k * 2) (honeY : ∀ u ∈ Y, u.oneCell' = true) (hk : k = 0) :
    Sat Try.prog 64 [.slice (some ⟨b, 0, none⟩) n (n + k), .int .i64 i, .slice (some ⟨vb, 0, none⟩) 1 1] [row 110 b (X ++ Y ++ rest), pt vb (.cells #[.int .u32 a, .int .u32 l] 110 (0, 0))] (fun u L' => ∃ nb k rest', u = .slice (some ⟨nb, 0, none⟩) (n + 1) (n + 1 + k) ∧ rest'.length = k * 2 ∧ L' = [row 110 nb (X ++ [.int .u32 a, .int .u32 l] ++ Y ++ rest')]) := by
  refine Sat.enter Try.func64 rfl Try.ntmps64 rfl (fun c R => ?_)
  try simp only [List.cons_append, List.nil_append]
  refine T.seq ?_
  refine T.reg ?_
  refine TO.p (DP.as (by conv => lhs; whnf)) ?_
  refine TO.nil ?_
  refine TQ.nn ?_
  refine T.seq ?_
  refine T.reg ?_
  refine TO.p (DP.mv (by conv => lhs; whnf)) ?_
  refine TO.p (DP.mv (by conv => lhs; whnf)) ?_
  refine TO.p (DP.slSl rfl rfl Try.underlying68 sz110 (by omega)) ?_
  refine TO.nil ?_
  refine TQ.nn ?_
  refine T.seq ?_
  refine T.reg ?_
  refine TO.p (DP.mv (by conv => lhs; whnf)) ?_
  refine TO.p (DP.lenS rfl Try.underlying68) ?_
  refine TO.p (DP.as (by conv => lhs; whnf)) ?_
  refine TO.nil ?_
  refine TQ.nn ?_
  refine T.seq ?_
  refine T.seq ?_
  refine T.reg ?_
  refine TO.p (DP.mv (by conv => lhs; whnf)) ?_
  refine TO.p (DP.eql (a := 1) (b := 0) rfl rfl) ?_
  refine TO.nil ?_
  refine TQ.nn ?_
  refine T.condD rfl (fun hc0 => ?_) (fun hc0 => ?_)
  · exact absurd hc0 (by decide)
  · refine T.skip ?_
    refine TQ.nn ?_
    refine T.seq ?_
    refine T.reg ?_
    refine TO.p (DP.mv (by conv => lhs; whnf)) ?_
    refine TO.p (DP.lenS rfl Try.underlying68) ?_
    refine TO.p (DP.as (by conv => lhs; whnf)) ?_
    refine TO.nil ?_
    refine TQ.nn ?_
    refine T.seq ?_
    refine T.seq ?_
    refine T.reg ?_
    refine TO.p (DP.mv (by conv => lhs; whnf)) ?_
    refine TO.p (DP.mv (by conv => lhs; whnf)) ?_
    refine TO.p (DP.eql rfl rfl) ?_
    refine TO.nil ?_
    refine TQ.nn ?_
    refine T.condD rfl (fun hc1 => ?_) (fun hc1 => ?_)
    · exact absurd hc1 (by omega)
    · refine T.skip ?_
      refine TQ.nn ?_
      refine T.seq ?_
      refine T.seq ?_
      refine T.reg ?_
      refine TO.p (DP.mv (by conv => lhs; whnf)) ?_
      refine TO.p (DP.mv (by conv => lhs; whnf)) ?_
      refine TO.p (DP.add rfl rfl (l := 9223372036854775808) rfl (by omega)) ?_
      refine TO.p (DP.mv (by conv => lhs; whnf)) ?_
      refine TO.p (DP.capS rfl Try.underlying68) ?_
      refine TO.p (DP.gtr rfl rfl) ?_
      refine TO.nil ?_
      refine TQ.nn ?_
      refine T.condD rfl (fun hc2 => ?_) (fun hc2 => ?_)
      · refine T.seq ?_
        refine T.reg ?_
        refine TO.p (DP.mv (by conv => lhs; whnf)) ?_
        refine TO.p (DP.mv (by conv => lhs; whnf)) ?_
        refine TO.p (DP.slSh rfl rfl Try.underlying68 sz110 (by omega)) ?_
        refine TO.p (DP.mv (by conv => lhs; whnf)) ?_
        refine TO.p (DP.mv (by conv => lhs; whnf)) ?_
        refine TO.p (DP.add rfl rfl (l := 9223372036854775808) rfl (by omega)) ?_
        refine TO.p (DP.mv (by conv => lhs; whnf)) ?_
        refine TO.p (DP.sub rfl rfl (l := 9223372036854775808) rfl (by omega) (by omega)) ?_
        refine TO.n (N.appZ (pre := X) rfl rfl Try.underlying68 Try.underlying3 sz110 by110 zr110 rfl rfl (by (repeat first | exact LMem.head _ _ | apply LMem.tail)) (ReadsN.row (fun j u hu => by rw [Nat.zero_add, List.append_assoc, List.getElem?_append_left (by rcases Nat.lt_or_ge j X.length with h | h; exact h; rw [List.getElem?_eq_none h] at hu; cases hu)]; exact hu)) hX (by omega) (by omega) (by omega)) ?_
        rintro _ _ ⟨nb, k2, rest2, rfl, hr2, rfl⟩
        rw [show i + (n + 1 - i) = n + 1 by omega]
        refine TO.p (DP.as (by conv => lhs; whnf)) ?_
        refine TO.nil ?_
        refine TQ.nn ?_
        refine T.seq ?_
        refine T.reg ?_
        refine TO.p (DP.mv (by conv => lhs; whnf)) ?_
        refine TO.p (DP.mv (by conv => lhs; whnf)) ?_
        refine TO.p (DP.to (v' := .slice (some ⟨nb, i * 2, none⟩) (n + 1 - i) (n + 1 + k2 - i)) (DP.slSl rfl rfl Try.underlying68 sz110 (by omega)) (by rw [if_neg (by omega)]; simp)) ?_
        refine TO.p (DP.mv (by conv => lhs; whnf)) ?_
        refine TO.n (N.cp rfl rfl Try.underlying68 sz110 (Src.sl (news := [.int .u32 a, .int .u32 l]) Try.underlying68 rfl (by (repeat first | exact LMem.head _ _ | apply LMem.tail)) (ReadsN.cells (fun i v hv => by simpa using hv))) (by intro u hu; simp at hu; rcases hu with rfl | rfl <;> rfl) (by (repeat first | exact Put.head _ _ _ | apply Put.tail)) (by simp [flatten_rep_length]; omega)) ?_
        rintro _ _ ⟨rfl, rfl⟩
        refine TO.nil ?_
        refine TQ.nn ?_
        refine T.seq ?_
        refine T.drawL [8] mixed (by repeat first | exact Calm.rt | apply Calm.t | apply Calm.b | apply Calm.l | apply Calm.ct) ?_
        refine TR.p 0 rfl (by kernel_rfl) (DP.mv (by conv => lhs; whnf)) ?_
        refine TR.p 1 rfl (by kernel_rfl) (DP.mv (by conv => lhs; whnf)) ?_
        refine TR.p 2 rfl (by kernel_rfl) (DP.mv (by conv => lhs; whnf)) ?_
        refine TR.p 3 rfl (by kernel_rfl) (DP.add rfl rfl (l := 9223372036854775808) rfl (by omega)) ?_
        refine TR.p 4 rfl (by kernel_rfl) (DP.to (v' := .slice (some ⟨nb, (i + 1) * 2, none⟩) (n + 1 - (i + 1)) (n + 1 + k2 - (i + 1))) (DP.slSl rfl rfl Try.underlying68 sz110 (by omega)) (by rw [if_neg (by omega)]; simp)) ?_
        refine TR.p 5 rfl (by kernel_rfl) (DP.mv (by conv => lhs; whnf)) ?_
        refine TR.p 6 rfl (by kernel_rfl) (DP.mv (by conv => lhs; whnf)) ?_
        refine TR.p 7 rfl (by kernel_rfl) (DP.to (v' := .slice (some ⟨b, i * 2, none⟩) (n - i) (n + k - i)) (DP.slSl rfl rfl Try.underlying68 sz110 (by omega)) (by rw [if_neg (by omega)]; simp)) ?_
        refine TR.n 8 (by kernel_rfl) rfl (N.cp (news := Y) rfl rfl Try.underlying68 sz110 (Src.sl Try.underlying68 hY (by (repeat first | exact LMem.head _ _ | apply LMem.tail)) (ReadsN.row (fun j u hu => by rw [List.append_assoc, List.getElem?_append_right (by omega), List.getElem?_append_left (by rcases Nat.lt_or_ge j Y.length with h | h; omega; rw [List.getElem?_eq_none h] at hu; cases hu), show i * 2 + j - X.length = j by omega]; exact hu))) honeY (by (repeat first | exact Put.head _ _ _ | apply Put.tail)) (by rw [length_setAll]; simp [flatten_rep_length]; omega)) ?_
        rintro _ _ ⟨rfl, rfl⟩
        refine ⟨.inl rfl, ?_⟩
        refine TR.done (by kernel_rfl) ?_
        refine TQ.nn ?_
        refine T.seq ?_
        refine T.reg ?_
        refine TO.p (DP.mv (by conv => lhs; whnf)) ?_
        refine TO.p (DP.as (by conv => lhs; whnf)) ?_
        refine TO.nil ?_
        refine TQ.nn ?_
        refine T.ret ?_
        refine TQ.nr ?_
        refine TQ.ret (vs := [.slice (some ⟨nb, 0, none⟩) (n + 1) (n + 1 + k2)]) (L' := [_]) rfl ⟨rfl, rfl⟩ ?_ (by (refine Ent.imp ?_; repeat first | exact Imp.refl _ | exact Imp.nil _ | (apply Imp.pull; focus ((repeat first | exact Del.head _ _ | apply Del.tail); done)) | (apply Imp.row; focus ((repeat first | exact Del.head _ _ | apply Del.tail); done)) | apply Imp.drop))
        refine ⟨nb, k2, rest2, rfl, hr2, congrArg (fun z => [row 110 nb z]) ?_⟩
        have h1 := ins_cells2 (X := X) (Y := Y) (r := rest2) (s := [.int .u32 a, .int .u32 l]) (z := (List.replicate (n + 1 - i) [Value.int .u32 0, Value.int .u32 0]).flatten) (by rw [flatten_rep_length]; simp; omega)
        rw [show min 1 (n + 1 - i) = 1 by omega, show min (n - i) (n + 1 - (i + 1)) = n - i by omega, show (n - i) * (1 + 1) = Y.length by omega, List.take_length, show (i + 1) * 2 = X.length + 2 by omega, ← hX]
        exact h1
      · exact absurd (by omega) hc2

theorem spans_split (ss : List Spn) (i : Nat) : spans ss = spans (ss.take i) ++ spans (ss.drop i) := by
  rw [← List.flatMap_append, List.take_append_drop]
theorem insert_spec (vb i a l : Nat) (v : Value) (ss : List Spn) (hn : ss.length ≤ 1048576) (hi : i ≤ ss.length) :
    Sat Try.prog 64 [v, .int .i64 i, .slice (some ⟨vb, 0, none⟩) 1 1] [sl 110 2 v ss.length (spans ss), pt vb (.cells #[.int .u32 a, .int .u32 l] 110 (0, 0))]
      (fun u L' => L' = [sl 110 2 u (ss.take i ++ (a, l) :: ss.drop i).length (spans (ss.take i ++ (a, l) :: ss.drop i))]) := by
  have hsp : spans (ss.take i ++ (a, l) :: ss.drop i) = spans (ss.take i) ++ [.int .u32 a, .int .u32 l] ++ spans (ss.drop i) := by
    simp [spv]
  have hll : (ss.take i ++ (a, l) :: ss.drop i).length = ss.length + 1 := by simp; omega
  rw [hsp, hll]
  refine Sat.open_sl ?_ ?_
  · rintro rfl hn0 hx
    have hs0 : ss = [] := List.eq_nil_of_length_eq_zero hn0
    subst hs0
    obtain rfl : i = 0 := by simpa using hi
    exact ins_nil vb a l
  · rintro b k rest rfl hx hr
    by_cases hin : i = ss.length
    · subst hin
      have := ins_end b ss.length k vb a l (spans ss) rest hn hx hr
      simpa using this
    · have hX : (spans (ss.take i)).length = i * 2 := by rw [flat_len spv_len]; simp; omega
      have hY : (spans (ss.drop i)).length = (ss.length - i) * 2 := by rw [flat_len spv_len]; simp
      rw [spans_split ss i] at hx ⊢
      have hoY : ∀ u ∈ spans (ss.drop i), u.oneCell' = true := one_spans _
      by_cases hk : k = 0
      · refine (ins_grow b ss.length k i vb a l _ _ rest hn (by omega) hX hY hr hoY hk).post ?_
        rintro u L' ⟨nb, k2, rest2, rfl, hr2, rfl⟩
        exact ⟨_, Imp.sl (Del.head _ _) (by simp only [List.length_append, hX, hY, List.length_cons, List.length_nil]; omega) hr2 (Imp.refl _), rfl⟩
      · refine (ins_room b ss.length k i vb a l _ _ rest hn (by omega) hX hY hr hoY (by omega)).post ?_
        rintro u L' ⟨rfl, rfl⟩
        exact ⟨_, Imp.sl (Del.head _ _) (by simp only [List.length_append, hX, hY, List.length_cons, List.length_nil]; omega) (by simp; omega) (Imp.refl _), rfl⟩

theorem del_row (b n k i : Nat) (X s Z rest : List Value) (hn : n ≤ 2097152) (hi : i < n) (hX : X.length = i * 2) (hs : s.length = 2) (hZ : Z.length = (n - (i + 1)) * 2) (hr : rest.length = k * 2) (hone : ∀ u ∈ Z, u.oneCell' = true) :
    Sat Try.prog 66 [.slice (some ⟨b, 0, none⟩) n (n + k), .int .i64 i, .int .i64 (i + 1 : Nat)] [row 110 b (X ++ s ++ Z ++ rest)]
      (fun u L' => u = .slice (some ⟨b, 0, none⟩) (n - 1) (n - 1 + (k + 1)) ∧ L' = [row 110 b (X ++ Z ++ ([.int .u32 0, .int .u32 0] ++ rest))]) := by
  refine Sat.enter Try.func66 rfl Try.ntmps66 rfl (fun c R => ?_)
  try simp only [List.cons_append, List.nil_append]
  refine T.seq ?_
  refine T.reg ?_
  refine TO.p (DP.as (by conv => lhs; whnf)) ?_
  refine TO.nil ?_
  refine TQ.nn ?_
  refine T.seq ?_
  refine T.reg ?_
  refine TO.p (DP.mv (by conv => lhs; whnf)) ?_
  refine TO.p (DP.mv (by conv => lhs; whnf)) ?_
  refine TO.p (DP.mv (by conv => lhs; whnf)) ?_
  refine TO.p (DP.mv (by conv => lhs; whnf)) ?_
  refine TO.p (DP.lenS rfl Try.underlying68) ?_
  refine TO.p (DP.slSm rfl rfl rfl rfl Try.underlying68 sz110 (by omega) (by omega) (by omega)) ?_
  refine TO.nil ?_
  refine TQ.nn ?_
  refine T.seq ?_
  refine T.seq ?_
  refine T.reg ?_
  refine TO.p (DP.mv (by conv => lhs; whnf)) ?_
  refine TO.p (DP.mv (by conv => lhs; whnf)) ?_
  refine TO.p (DP.eql rfl rfl) ?_
  refine TO.nil ?_
  refine TQ.nn ?_
  refine T.condD rfl (fun hc0 => ?_) (fun hc0 => ?_)
  · exact absurd hc0 (by omega)
  · refine T.skip ?_
    refine TQ.nn ?_
    refine T.seq ?_
    refine T.reg ?_
    refine TO.p (DP.mv (by conv => lhs; whnf)) ?_
    refine TO.p (DP.lenS rfl Try.underlying68) ?_
    refine TO.p (DP.as (by conv => lhs; whnf)) ?_
    refine TO.nil ?_
    refine TQ.nn ?_
    refine T.seq ?_
    refine T.drawL [6] mixed (by repeat first | exact Calm.rt | apply Calm.t | apply Calm.b | apply Calm.l | apply Calm.ct) ?_
    refine TR.p 0 rfl (by kernel_rfl) (DP.mv (by conv => lhs; whnf)) ?_
    refine TR.p 1 rfl (by kernel_rfl) (DP.mv (by conv => lhs; whnf)) ?_
    refine TR.p 2 rfl (by kernel_rfl) (DP.slSh rfl rfl Try.underlying68 sz110 (by omega)) ?_
    refine TR.p 3 rfl (by kernel_rfl) (DP.mv (by conv => lhs; whnf)) ?_
    refine TR.p 4 rfl (by kernel_rfl) (DP.mv (by conv => lhs; whnf)) ?_
    refine TR.p 5 rfl (by kernel_rfl) (DP.slSl rfl rfl Try.underlying68 sz110 (by omega)) ?_
    refine TR.n 6 (by kernel_rfl) rfl (N.appIn (news := Z) rfl rfl Try.underlying68 sz110 (Src.sl Try.underlying68 hZ (by (repeat first | exact LMem.head _ _ | apply LMem.tail)) (ReadsN.row (fun j u hu => by have hj : j < Z.length := (by rcases Nat.lt_or_ge j Z.length with h | h; exact h; rw [List.getElem?_eq_none h] at hu; cases hu); rw [if_neg (by omega), List.append_assoc, List.getElem?_append_right (by simp; omega), List.getElem?_append_left (by simp; omega)]; simp only [List.length_append]; rw [show 0 + (i + 1) * (1 + 1) + j - (X.length + s.length) = j by omega]; exact hu))) hone (by omega) (by (repeat first | exact Put.head _ _ _ | apply Put.tail)) (by simp only [List.length_append]; omega)) ?_
    rintro _ _ ⟨rfl, rfl⟩
    refine ⟨.inl rfl, ?_⟩
    refine TR.p 7 rfl (by kernel_rfl) (DP.as (by conv => lhs; whnf)) ?_
    refine TR.done (by kernel_rfl) ?_
    refine TQ.nn ?_
    refine T.seq ?_
    refine T.reg ?_
    refine TO.p (DP.mv (by conv => lhs; whnf)) ?_
    refine TO.p (DP.mv (by conv => lhs; whnf)) ?_
    refine TO.p (DP.lenS rfl Try.underlying68) ?_
    refine TO.p (DP.mv (by conv => lhs; whnf)) ?_
    refine TO.p (DP.to (v' := .slice (some ⟨b, (n - 1) * 2, none⟩) (0 + 1) (n + k - (n - 1))) (DP.slS rfl rfl rfl Try.underlying68 sz110 (by omega) (by omega)) (by rw [if_neg (by omega), show i + (n - (i + 1)) = n - 1 by omega, show n - (n - 1) = 0 + 1 by omega]; simp)) ?_
    refine TO.n0 (N.clr rfl Try.underlying68 zr110 rfl rfl (by simp [Value.oneCell']) (by (repeat first | exact Put.head _ _ _ | apply Put.tail)) (by simp [length_setAll]; omega)) ?_
    rintro _ _ ⟨rfl, rfl⟩
    refine TO.nil ?_
    refine TQ.nn ?_
    refine T.seq ?_
    refine T.reg ?_
    refine TO.p (DP.mv (by conv => lhs; whnf)) ?_
    refine TO.p (DP.as (by conv => lhs; whnf)) ?_
    refine TO.nil ?_
    refine TQ.nn ?_
    refine T.ret ?_
    refine TQ.ret (vs := [.slice (some ⟨b, 0, none⟩) (n - 1) (n - 1 + (k + 1))]) (L' := [_]) rfl ⟨by rw [show n - 1 + (k + 1) = n + k by omega, show n - 1 = i + (n - (i + 1)) by omega]; rfl, rfl⟩ ?_ (by (refine Ent.imp ?_; repeat first | exact Imp.refl _ | exact Imp.nil _ | (apply Imp.pull; focus ((repeat first | exact Del.head _ _ | apply Del.tail); done)) | (apply Imp.row; focus ((repeat first | exact Del.head _ _ | apply Del.tail); done)) | apply Imp.drop))
    refine ⟨rfl, congrArg (fun z => [row 110 b z]) ?_⟩
    have h1 := del_cells (X := X) (s := s) (Z := Z) (r := rest) (z := [.int .u32 0, .int .u32 0]) (by simp [hs])
    rw [show (n - 1) * 2 = X.length + Z.length by omega, show 0 + i * (1 + 1) = X.length by omega]
    exact h1

theorem delete_spec (i : Nat) (v : Value) (ss : List Spn) (hn : ss.length ≤ 2097152) (hi : i < ss.length) :
    Sat Try.prog 66 [v, .int .i64 i, .int .i64 (i + 1 : Nat)] [sl 110 2 v ss.length (spans ss)]
      (fun u L' => L' = [sl 110 2 u (ss.take i ++ ss.drop (i + 1)).length (spans (ss.take i ++ ss.drop (i + 1)))]) := by
  have hsp : spans (ss.take i ++ ss.drop (i + 1)) = spans (ss.take i) ++ spans (ss.drop (i + 1)) := by simp
  have hll : (ss.take i ++ ss.drop (i + 1)).length = ss.length - 1 := by simp; omega
  rw [hsp, hll]
  refine Sat.open_sl (fun _ h0 _ => by omega) ?_
  rintro b k rest rfl hx hr
  obtain ⟨s, hs⟩ := get_some hi
  have he : spans ss = spans (ss.take i) ++ spv s ++ spans (ss.drop (i + 1)) := by
    have h1 : ss = ss.take i ++ s :: ss.drop (i + 1) := by
      have h2 := List.take_append_drop i ss
      have h3 : ss.drop i = s :: ss.drop (i + 1) := by
        rw [List.getElem?_eq_getElem hi] at hs
        rw [List.drop_eq_getElem_cons hi]; simp at hs; rw [hs]
      rw [h3] at h2; exact h2.symm
    conv => lhs; rw [h1]
    simp
  have hX : (spans (ss.take i)).length = i * 2 := by rw [flat_len spv_len]; simp; omega
  have hZ : (spans (ss.drop (i + 1))).length = (ss.length - (i + 1)) * 2 := by rw [flat_len spv_len]; simp
  rw [he]
  refine (del_row b ss.length k i _ _ _ rest hn hi hX rfl hZ hr (one_spans _)).post ?_
  rintro u L' ⟨rfl, rfl⟩
  exact ⟨_, Imp.sl (Del.head _ _) (by simp only [List.length_append, hX, hZ]; omega) (by simp; omega) (Imp.refl _), rfl⟩

theorem bsf_spec (v : Value) (ss : List Spn) (a l : Nat) (hlen : ss.length ≤ 1048576) (hb : ∀ s ∈ ss, s.1 < 4294967296) (ha : a < 4294967296)
    (hsort : ∀ (m h : Nat) (x y : Spn), m ≤ h → ss[m]? = some x → ss[h]? = some y → x.1 ≤ y.1) :
    Sat Try.prog 62 [v, .agg #[.int .u32 a, .int .u32 l], .func (.func 63) #[] #[]] [sl 110 2 v ss.length (spans ss)]
      (fun u L' => ∃ (i : Nat) (fd : Bool), u = .tuple #[.int .i64 i, .bool fd] ∧ i ≤ ss.length ∧ (∀ s ∈ ss.take i, s.1 < a) ∧ (∀ s ∈ ss.drop i, a ≤ s.1) ∧ L' = [sl 110 2 v ss.length (spans ss)]) := by
  refine Sat.enter Try.func62 rfl Try.ntmps62 rfl (fun c R => ?_)
  try simp only [List.cons_append, List.nil_append]
  refine T.seq ?_
  refine T.reg ?_
  refine TO.n (N.bxA rfl) ?_
  rintro _ _ ⟨b4, rfl, rfl⟩
  refine TO.p (DP.as (by conv => lhs; whnf)) ?_
  refine TO.p (DP.as (by conv => lhs; whnf)) ?_
  refine TO.nil ?_
  refine TQ.nn ?_
  refine T.seq ?_
  refine T.reg ?_
  refine TO.p (DP.mv (by conv => lhs; whnf)) ?_
  refine TO.d (D.lenO (by conv => lhs; whnf) Try.underlying68 (by (repeat first | exact LMem.head _ _ | apply LMem.tail))) ?_
  refine TO.p (DP.as (by conv => lhs; whnf)) ?_
  refine TO.nil ?_
  refine TQ.nn ?_
  refine T.seq ?_
  refine T.reg ?_
  refine TO.p (DP.mv (by conv => lhs; whnf)) ?_
  refine TO.p (DP.as (by conv => lhs; whnf)) ?_
  refine TO.p (DP.as (by conv => lhs; whnf)) ?_
  refine TO.nil ?_
  refine TQ.nn ?_
  refine T.seq ?_
  refine T.block ?_
  refine T.loop (S := Nat × Nat) (0, ss.length) (fun ⟨i, j⟩ => [(0, v), (2, .func (.func 63) #[] #[]), (4, .pointer (some ⟨b4, 0, none⟩)), (8, .int .i64 (ss.length : Nat)), (9, .int .i64 (i : Nat)), (10, .int .i64 (j : Nat))]) (fun ⟨i, j⟩ => row 110 b4 [.int .u32 a, .int .u32 l] :: sl 110 2 v ss.length (spans ss) :: R) (fun ⟨i, j⟩ => i ≤ j ∧ j ≤ ss.length ∧ (∀ s ∈ ss.take i, s.1 < a) ∧ (∀ s ∈ ss.drop j, a ≤ s.1)) (fun ⟨i, j⟩ => j - i) ?_ ?_ ?_ ?_
  · (repeat first | exact trivial | refine ⟨rfl, ?_⟩)
  · exact ⟨Nat.zero_le _, Nat.le_refl _, by simp, by simp⟩
  · exact Ent.refl _ _
  rintro ⟨i, j⟩ g hI
  try dsimp only
  refine T.seq ?_
  refine T.seq ?_
  refine T.reg ?_
  refine TO.p (DP.mv (by conv => lhs; whnf)) ?_
  refine TO.p (DP.mv (by conv => lhs; whnf)) ?_
  refine TO.p (DP.lss rfl rfl) ?_
  refine TO.nil ?_
  refine TQ.nn ?_
  refine T.condD rfl (fun hc0 => ?_) (fun hc0 => ?_)
  · obtain ⟨hI1, hI2, hI3, hI4⟩ := hI
    obtain ⟨h, hh⟩ : ∃ h, h = (i + j) / 2 := ⟨_, rfl⟩
    obtain ⟨s, hs⟩ := get_some (l := ss) (i := h) (by omega)
    have hsb := hb s (mem_of_get hs)
    have hus := flat_elem spv_len hs
    refine T.skip ?_
    refine TQ.nn ?_
    refine T.block ?_
    refine T.seq ?_
    refine T.reg ?_
    refine TO.p (DP.mv (by conv => lhs; whnf)) ?_
    refine TO.p (DP.mv (by conv => lhs; whnf)) ?_
    refine TO.p (DP.add rfl rfl (l := 9223372036854775808) rfl (by omega)) ?_
    refine TO.p (DP.cv rfl is3 Try.underlying107 (l := 18446744073709551616) rfl (by omega)) ?_
    refine TO.p (DP.to (v' := .int .u64 (h : Nat)) (DP.shr (b := 1) rfl rfl (l := 18446744073709551616) rfl (by omega)) (by rw [hh])) ?_
    refine TO.p (DP.cv rfl is107 Try.underlying3 (l := 9223372036854775808) rfl (by omega)) ?_
    refine TO.p (DP.as (by conv => lhs; whnf)) ?_
    refine TO.nil ?_
    refine TQ.nn ?_
    refine T.seq ?_
    refine T.drawL [6] mixed (by repeat first | exact Calm.rt | apply Calm.t | apply Calm.b | apply Calm.l | apply Calm.ct) ?_
    refine TR.p 0 rfl (by kernel_rfl) (DP.mv (by conv => lhs; whnf)) ?_
    refine TR.p 1 rfl (by kernel_rfl) (DP.mv (by conv => lhs; whnf)) ?_
    refine TR.p 2 rfl (by kernel_rfl) (DP.mv (by conv => lhs; whnf)) ?_
    refine TR.d 3 rfl (by kernel_rfl) (by kernel_rfl) (by (refine Ent.imp ?_; repeat first | exact Imp.refl _ | exact Imp.nil _ | (apply Imp.pull; focus ((repeat first | exact Del.head _ _ | apply Del.tail); done)) | (apply Imp.row; focus ((repeat first | exact Del.head _ _ | apply Del.tail); done)) | apply Imp.drop)) (D.iasO (by conv => lhs; whnf) rfl Try.underlying68 sz110 (by (repeat first | exact LMem.head _ _ | apply LMem.tail)) (by omega)) ?_
    refine TR.d 4 rfl (by kernel_rfl) (by kernel_rfl) (by (refine Ent.imp ?_; repeat first | exact Imp.refl _ | exact Imp.nil _ | (apply Imp.pull; focus ((repeat first | exact Del.head _ _ | apply Del.tail); done)) | (apply Imp.row; focus ((repeat first | exact Del.head _ _ | apply Del.tail); done)) | apply Imp.drop)) (D.ldOA (us := [.int .u32 s.1, .int .u32 s.2]) (by conv => lhs; whnf) ag110 sz110 (by (repeat first | exact LMem.head _ _ | apply LMem.tail)) (by omega) hus rfl) ?_
    refine TR.d 5 rfl (by kernel_rfl) (by kernel_rfl) (by (refine Ent.imp ?_; repeat first | exact Imp.refl _ | exact Imp.nil _ | (apply Imp.pull; focus ((repeat first | exact Del.head _ _ | apply Del.tail); done)) | (apply Imp.row; focus ((repeat first | exact Del.head _ _ | apply Del.tail); done)) | apply Imp.drop)) (D.ldRA rfl ag110 sz110 (by (repeat first | exact LMem.head _ _ | apply LMem.tail)) (by rfl)) ?_
    refine TR.n 6 (by kernel_rfl) rfl (N.callC 2 (cmp_spec s.1 s.2 a l hsb ha) Try.call63 rfl ⟨rfl, rfl, trivial⟩ (by (repeat first | exact Pick.nil _ | (apply Pick.cons; focus ((repeat first | exact Del.head _ _ | apply Del.tail); done))))) ?_
    rintro u30 _ ⟨_, ⟨rfl, rfl⟩, rfl⟩
    try simp only [List.cons_append, List.nil_append]
    refine ⟨.inl rfl, ?_⟩
    refine TR.p 7 rfl (by kernel_rfl) (DP.lssI rfl rfl) ?_
    refine TR.done (by kernel_rfl) ?_
    refine TQ.nn ?_
    refine T.condD rfl (fun hc1 => ?_) (fun hc1 => ?_)
    · have hN : ∀ s ∈ ss.take (h + 1), s.1 < a := fun x hx => by
        obtain ⟨m, hm⟩ := List.mem_iff_getElem?.1 hx
        rw [List.getElem?_take] at hm
        split at hm
        · have := hsort m h x s (by omega) hm hs; omega
        · cases hm
      have hIn : h + 1 ≤ j ∧ j ≤ ss.length ∧ (∀ s ∈ ss.take (h + 1), s.1 < a) ∧ (∀ s ∈ ss.drop j, a ≤ s.1) := ⟨by omega, hI2, hN, hI4⟩
      refine T.reg ?_
      refine TO.p (DP.mv (by conv => lhs; whnf)) ?_
      refine TO.p (DP.add (b := 1) rfl rfl (l := 9223372036854775808) rfl (by omega)) ?_
      refine TO.p (DP.as (by conv => lhs; whnf)) ?_
      refine TO.nil ?_
      refine TQ.bn ?_
      refine TQ.round (h + 1, j) rfl ?_ ?_ ?_ ?_
      · (repeat first | exact trivial | refine ⟨rfl, ?_⟩)
      · exact hIn
      · (simp only; omega)
      · exact Ent.refl _ _
    · have hN : ∀ s ∈ ss.drop h, a ≤ s.1 := fun x hx => by
        obtain ⟨m, hm⟩ := List.mem_iff_getElem?.1 hx
        rw [List.getElem?_drop] at hm
        have := hsort h (h + m) s x (by omega) hs hm; omega
      have hIn : i ≤ h ∧ h ≤ ss.length ∧ (∀ s ∈ ss.take i, s.1 < a) ∧ (∀ s ∈ ss.drop h, a ≤ s.1) := ⟨by omega, by omega, hI3, hN⟩
      refine T.reg ?_
      refine TO.p (DP.mv (by conv => lhs; whnf)) ?_
      refine TO.p (DP.as (by conv => lhs; whnf)) ?_
      refine TO.nil ?_
      refine TQ.bn ?_
      refine TQ.round (i, h) rfl ?_ ?_ ?_ ?_
      · (repeat first | exact trivial | refine ⟨rfl, ?_⟩)
      · exact hIn
      · (simp only; omega)
      · exact Ent.refl _ _
  · obtain ⟨hI1, hI2, hI3, hI4⟩ := hI
    obtain rfl : i = j := by omega
    refine T.exit ?_
    refine TQ.ne ?_
    refine TQ.le ?_
    refine TQ.be ?_
    refine TQ.nn ?_
    refine T.seq ?_
    refine T.drawL [11] mixed (by repeat first | exact Calm.rt | apply Calm.t | apply Calm.b | apply Calm.l | apply Calm.ct) ?_
    refine TR.p 0 rfl (by kernel_rfl) (DP.mv (by conv => lhs; whnf)) ?_
    refine TR.p 1 rfl (by kernel_rfl) (DP.mv (by conv => lhs; whnf)) ?_
    refine TR.p 2 rfl (by kernel_rfl) (DP.mv (by conv => lhs; whnf)) ?_
    refine TR.p 3 rfl (by kernel_rfl) (DP.lss rfl rfl) ?_
    refine TR.pB 4 rfl (by kernel_rfl) (DP.mv (by conv => lhs; whnf)) (fun hg39 => ?_) (fun hg39 => ?_)
    · obtain ⟨s, hs⟩ := get_some (l := ss) (i := i) hg39
      have hsb := hb s (mem_of_get hs)
      have hus := flat_elem spv_len hs
      refine TR.pon 5 rfl (by kernel_rfl) rfl (DP.mv (by conv => lhs; whnf)) ?_
      refine TR.pon 6 rfl (by kernel_rfl) rfl (DP.mv (by conv => lhs; whnf)) ?_
      refine TR.pon 7 rfl (by kernel_rfl) rfl (DP.mv (by conv => lhs; whnf)) ?_
      refine TR.don 8 rfl (by kernel_rfl) (by kernel_rfl) (by (refine Ent.imp ?_; repeat first | exact Imp.refl _ | exact Imp.nil _ | (apply Imp.pull; focus ((repeat first | exact Del.head _ _ | apply Del.tail); done)) | (apply Imp.row; focus ((repeat first | exact Del.head _ _ | apply Del.tail); done)) | apply Imp.drop)) rfl (D.iasO (by conv => lhs; whnf) rfl Try.underlying68 sz110 (by (repeat first | exact LMem.head _ _ | apply LMem.tail)) (by omega)) ?_
      refine TR.don 9 rfl (by kernel_rfl) (by kernel_rfl) (by (refine Ent.imp ?_; repeat first | exact Imp.refl _ | exact Imp.nil _ | (apply Imp.pull; focus ((repeat first | exact Del.head _ _ | apply Del.tail); done)) | (apply Imp.row; focus ((repeat first | exact Del.head _ _ | apply Del.tail); done)) | apply Imp.drop)) rfl (D.ldOA (us := [.int .u32 s.1, .int .u32 s.2]) (by conv => lhs; whnf) ag110 sz110 (by (repeat first | exact LMem.head _ _ | apply LMem.tail)) (by omega) hus rfl) ?_
      refine TR.don 10 rfl (by kernel_rfl) (by kernel_rfl) (by (refine Ent.imp ?_; repeat first | exact Imp.refl _ | exact Imp.nil _ | (apply Imp.pull; focus ((repeat first | exact Del.head _ _ | apply Del.tail); done)) | (apply Imp.row; focus ((repeat first | exact Del.head _ _ | apply Del.tail); done)) | apply Imp.drop)) rfl (D.ldRA rfl ag110 sz110 (by (repeat first | exact LMem.head _ _ | apply LMem.tail)) (by rfl)) ?_
      refine TR.non 11 (by kernel_rfl) rfl rfl (N.callC 2 (cmp_spec s.1 s.2 a l hsb ha) Try.call63 rfl ⟨rfl, rfl, trivial⟩ (by (repeat first | exact Pick.nil _ | (apply Pick.cons; focus ((repeat first | exact Del.head _ _ | apply Del.tail); done))))) ?_
      rintro u46 _ ⟨_, ⟨rfl, rfl⟩, rfl⟩
      try simp only [List.cons_append, List.nil_append]
      refine ⟨.inl rfl, ?_⟩
      refine TR.pon 12 rfl (by kernel_rfl) rfl (DP.eqlI rfl rfl) ?_
      refine TR.p 13 rfl (by kernel_rfl) (DP.pkT rfl (by conv => lhs; whnf)) ?_
      refine TR.p 14 rfl (by kernel_rfl) (DP.as (by conv => lhs; whnf)) ?_
      refine TR.p 15 rfl (by kernel_rfl) (DP.as (by conv => lhs; whnf)) ?_
      refine TR.done (by kernel_rfl) ?_
      refine TQ.nn ?_
      refine T.ret ?_
      refine TQ.ret (vs := [.int .i64 (i : Nat), .bool _]) (L' := [_]) rfl ⟨rfl, rfl, rfl⟩ ⟨i, _, rfl, hI2, hI3, hI4, rfl⟩ (by (refine Ent.imp ?_; repeat first | exact Imp.refl _ | exact Imp.nil _ | (apply Imp.pull; focus ((repeat first | exact Del.head _ _ | apply Del.tail); done)) | (apply Imp.row; focus ((repeat first | exact Del.head _ _ | apply Del.tail); done)) | apply Imp.drop))
    · refine TR.off 5 rfl (by kernel_rfl) rfl rfl ?_
      refine TR.off 6 rfl (by kernel_rfl) rfl rfl ?_
      refine TR.off 7 rfl (by kernel_rfl) rfl rfl ?_
      refine TR.off 8 rfl (by kernel_rfl) rfl rfl ?_
      refine TR.off 9 rfl (by kernel_rfl) rfl rfl ?_
      refine TR.off 10 rfl (by kernel_rfl) rfl rfl ?_
      refine TR.off 11 rfl (by kernel_rfl) rfl rfl ?_
      refine TR.off 12 rfl (by kernel_rfl) rfl rfl ?_
      refine TR.p 13 rfl (by kernel_rfl) (DP.pkF rfl (by conv => lhs; whnf)) ?_
      refine TR.p 14 rfl (by kernel_rfl) (DP.as (by conv => lhs; whnf)) ?_
      refine TR.p 15 rfl (by kernel_rfl) (DP.as (by conv => lhs; whnf)) ?_
      refine TR.done (by kernel_rfl) ?_
      refine TQ.nn ?_
      refine T.ret ?_
      refine TQ.ret (vs := [.int .i64 (i : Nat), .bool _]) (L' := [_]) rfl ⟨rfl, rfl, rfl⟩ ⟨i, _, rfl, hI2, hI3, hI4, rfl⟩ (by (refine Ent.imp ?_; repeat first | exact Imp.refl _ | exact Imp.nil _ | (apply Imp.pull; focus ((repeat first | exact Del.head _ _ | apply Del.tail); done)) | (apply Imp.row; focus ((repeat first | exact Del.head _ _ | apply Del.tail); done)) | apply Imp.drop))
end Go.Proofs.Ytfgpnipnaaeafaa


namespace Go.Proofs.Ytfgpnipnaaeafaa
open Go Pw
set_option maxRecDepth 20000
set_option maxHeartbeats 4000000
theorem lend_out (p b a l : Nat) (v : Value) (bs : List UInt8) (ss : List Spn) (hbs : bs.length ≤ 1048576) (hlen : ss.length ≤ 1048576) (hb : ∀ s ∈ ss, s.1 + s.2 ≤ 1048576) (ha : a < 4294967296) (hl : l < 4294967296) (h : l = 0 ∨ bs.length < a + l) :
    Sat Try.prog 44 [.pointer (some ⟨p, 0, none⟩), .agg #[.int .u32 a, .int .u32 l]] [row 70 p [.slice (some ⟨b, 0, none⟩) bs.length bs.length, v], row 5 b (bs.map byteV), sl 110 2 v ss.length (spans ss)] (fun u L' => u = .int .i64 10 ∧ L' = [row 70 p [.slice (some ⟨b, 0, none⟩) bs.length bs.length, v], row 5 b (bs.map byteV), sl 110 2 v ss.length (spans ss)]) := by
  refine Sat.enter Try.func44 rfl Try.ntmps44 rfl (fun c R => ?_)
  try simp only [List.cons_append, List.nil_append]
  refine T.seq ?_
  refine T.reg ?_
  refine TO.n (N.bxA rfl) ?_
  rintro _ _ ⟨b3, rfl, rfl⟩
  refine TO.p (DP.as (by conv => lhs; whnf)) ?_
  refine TO.nil ?_
  refine TQ.nn ?_
  refine T.seq ?_
  refine T.seq ?_
  refine T.reg ?_
  refine TO.p (DP.mv (by conv => lhs; whnf)) ?_
  refine TO.d (D.ldRA rfl ag110 sz110 (by (repeat first | exact LMem.head _ _ | apply LMem.tail)) (by rfl)) ?_
  refine TO.n (N.callF (span_out p bs.length b a l v hbs ha hl h) Try.call61 ⟨rfl, rfl, trivial⟩ (by (repeat first | exact Pick.nil _ | (apply Pick.cons; focus ((repeat first | exact Del.head _ _ | apply Del.tail); done))))) ?_
  rintro u10 _ ⟨_, ⟨rfl, rfl⟩, rfl⟩
  try simp only [List.cons_append, List.nil_append]
  refine TO.p (DP.as (by conv => lhs; whnf)) ?_
  refine TO.nil ?_
  refine TQ.nn ?_
  refine T.seq ?_
  refine T.reg ?_
  refine TO.p (DP.mv (by conv => lhs; whnf)) ?_
  refine TO.p (DP.neq (a := 10) (b := 0) rfl rfl) ?_
  refine TO.nil ?_
  refine TQ.nn ?_
  refine T.condD rfl (fun hc0 => ?_) (fun hc0 => ?_)
  · refine T.seq ?_
    refine T.reg ?_
    refine TO.p (DP.mv (by conv => lhs; whnf)) ?_
    refine TO.p (DP.as (by conv => lhs; whnf)) ?_
    refine TO.nil ?_
    refine TQ.nn ?_
    refine T.ret ?_
    refine TQ.nr ?_
    refine TQ.ret (vs := [.int .i64 10]) (L' := [_, _, _]) rfl ⟨rfl, rfl⟩ ⟨rfl, rfl⟩ (by (refine Ent.imp ?_; repeat first | exact Imp.refl _ | exact Imp.nil _ | (apply Imp.pull; focus ((repeat first | exact Del.head _ _ | apply Del.tail); done)) | (apply Imp.row; focus ((repeat first | exact Del.head _ _ | apply Del.tail); done)) | apply Imp.drop))
  · exact absurd (by decide) hc0

theorem lend_nil (a l : Nat) :
    Sat Try.prog 44 [.pointer none, .agg #[.int .u32 a, .int .u32 l]] [] (fun u L' => u = .int .i64 1 ∧ L' = []) := by
  refine Sat.enter Try.func44 rfl Try.ntmps44 rfl (fun c R => ?_)
  try simp only [List.cons_append, List.nil_append]
  refine T.seq ?_
  refine T.reg ?_
  refine TO.n (N.bxA rfl) ?_
  rintro _ _ ⟨b3, rfl, rfl⟩
  refine TO.p (DP.as (by conv => lhs; whnf)) ?_
  refine TO.nil ?_
  refine TQ.nn ?_
  refine T.seq ?_
  refine T.seq ?_
  refine T.reg ?_
  refine TO.p (DP.mv (by conv => lhs; whnf)) ?_
  refine TO.d (D.ldRA rfl ag110 sz110 (by (repeat first | exact LMem.head _ _ | apply LMem.tail)) (by rfl)) ?_
  refine TO.n (N.callF (span_nil a l) Try.call61 ⟨rfl, rfl, trivial⟩ (by (repeat first | exact Pick.nil _ | (apply Pick.cons; focus ((repeat first | exact Del.head _ _ | apply Del.tail); done))))) ?_
  rintro u10 _ ⟨_, ⟨rfl, rfl⟩, rfl⟩
  try simp only [List.cons_append, List.nil_append]
  refine TO.p (DP.as (by conv => lhs; whnf)) ?_
  refine TO.nil ?_
  refine TQ.nn ?_
  refine T.seq ?_
  refine T.reg ?_
  refine TO.p (DP.mv (by conv => lhs; whnf)) ?_
  refine TO.p (DP.neq (a := 1) (b := 0) rfl rfl) ?_
  refine TO.nil ?_
  refine TQ.nn ?_
  refine T.condD rfl (fun hc0 => ?_) (fun hc0 => ?_)
  · refine T.seq ?_
    refine T.reg ?_
    refine TO.p (DP.mv (by conv => lhs; whnf)) ?_
    refine TO.p (DP.as (by conv => lhs; whnf)) ?_
    refine TO.nil ?_
    refine TQ.nn ?_
    refine T.ret ?_
    refine TQ.nr ?_
    refine TQ.ret (vs := [.int .i64 1]) (L' := []) rfl ⟨rfl, rfl⟩ ⟨rfl, rfl⟩ (by (refine Ent.imp ?_; repeat first | exact Imp.refl _ | exact Imp.nil _ | (apply Imp.pull; focus ((repeat first | exact Del.head _ _ | apply Del.tail); done)) | (apply Imp.row; focus ((repeat first | exact Del.head _ _ | apply Del.tail); done)) | apply Imp.drop))
  · exact absurd (by decide) hc0

theorem back_out (p b a l : Nat) (v : Value) (bs : List UInt8) (ss : List Spn) (hbs : bs.length ≤ 1048576) (hlen : ss.length ≤ 1048576) (hb : ∀ s ∈ ss, s.1 + s.2 ≤ 1048576) (ha : a < 4294967296) (hl : l < 4294967296) (h : l = 0 ∨ bs.length < a + l) :
    Sat Try.prog 81 [.pointer (some ⟨p, 0, none⟩), .agg #[.int .u32 a, .int .u32 l]] [row 70 p [.slice (some ⟨b, 0, none⟩) bs.length bs.length, v], row 5 b (bs.map byteV), sl 110 2 v ss.length (spans ss)] (fun u L' => u = .int .i64 10 ∧ L' = [row 70 p [.slice (some ⟨b, 0, none⟩) bs.length bs.length, v], row 5 b (bs.map byteV), sl 110 2 v ss.length (spans ss)]) := by
  refine Sat.enter Try.func81 rfl Try.ntmps81 rfl (fun c R => ?_)
  try simp only [List.cons_append, List.nil_append]
  refine T.seq ?_
  refine T.reg ?_
  refine TO.n (N.bxA rfl) ?_
  rintro _ _ ⟨b3, rfl, rfl⟩
  refine TO.p (DP.as (by conv => lhs; whnf)) ?_
  refine TO.nil ?_
  refine TQ.nn ?_
  refine T.seq ?_
  refine T.seq ?_
  refine T.reg ?_
  refine TO.p (DP.mv (by conv => lhs; whnf)) ?_
  refine TO.d (D.ldRA rfl ag110 sz110 (by (repeat first | exact LMem.head _ _ | apply LMem.tail)) (by rfl)) ?_
  refine TO.n (N.callF (span_out p bs.length b a l v hbs ha hl h) Try.call61 ⟨rfl, rfl, trivial⟩ (by (repeat first | exact Pick.nil _ | (apply Pick.cons; focus ((repeat first | exact Del.head _ _ | apply Del.tail); done))))) ?_
  rintro u11 _ ⟨_, ⟨rfl, rfl⟩, rfl⟩
  try simp only [List.cons_append, List.nil_append]
  refine TO.p (DP.as (by conv => lhs; whnf)) ?_
  refine TO.nil ?_
  refine TQ.nn ?_
  refine T.seq ?_
  refine T.reg ?_
  refine TO.p (DP.mv (by conv => lhs; whnf)) ?_
  refine TO.p (DP.neq (a := 10) (b := 0) rfl rfl) ?_
  refine TO.nil ?_
  refine TQ.nn ?_
  refine T.condD rfl (fun hc0 => ?_) (fun hc0 => ?_)
  · refine T.seq ?_
    refine T.reg ?_
    refine TO.p (DP.mv (by conv => lhs; whnf)) ?_
    refine TO.p (DP.as (by conv => lhs; whnf)) ?_
    refine TO.nil ?_
    refine TQ.nn ?_
    refine T.ret ?_
    refine TQ.nr ?_
    refine TQ.ret (vs := [.int .i64 10]) (L' := [_, _, _]) rfl ⟨rfl, rfl⟩ ⟨rfl, rfl⟩ (by (refine Ent.imp ?_; repeat first | exact Imp.refl _ | exact Imp.nil _ | (apply Imp.pull; focus ((repeat first | exact Del.head _ _ | apply Del.tail); done)) | (apply Imp.row; focus ((repeat first | exact Del.head _ _ | apply Del.tail); done)) | apply Imp.drop))
  · exact absurd (by decide) hc0

theorem back_nil (a l : Nat) :
    Sat Try.prog 81 [.pointer none, .agg #[.int .u32 a, .int .u32 l]] [] (fun u L' => u = .int .i64 1 ∧ L' = []) := by
  refine Sat.enter Try.func81 rfl Try.ntmps81 rfl (fun c R => ?_)
  try simp only [List.cons_append, List.nil_append]
  refine T.seq ?_
  refine T.reg ?_
  refine TO.n (N.bxA rfl) ?_
  rintro _ _ ⟨b3, rfl, rfl⟩
  refine TO.p (DP.as (by conv => lhs; whnf)) ?_
  refine TO.nil ?_
  refine TQ.nn ?_
  refine T.seq ?_
  refine T.seq ?_
  refine T.reg ?_
  refine TO.p (DP.mv (by conv => lhs; whnf)) ?_
  refine TO.d (D.ldRA rfl ag110 sz110 (by (repeat first | exact LMem.head _ _ | apply LMem.tail)) (by rfl)) ?_
  refine TO.n (N.callF (span_nil a l) Try.call61 ⟨rfl, rfl, trivial⟩ (by (repeat first | exact Pick.nil _ | (apply Pick.cons; focus ((repeat first | exact Del.head _ _ | apply Del.tail); done))))) ?_
  rintro u11 _ ⟨_, ⟨rfl, rfl⟩, rfl⟩
  try simp only [List.cons_append, List.nil_append]
  refine TO.p (DP.as (by conv => lhs; whnf)) ?_
  refine TO.nil ?_
  refine TQ.nn ?_
  refine T.seq ?_
  refine T.reg ?_
  refine TO.p (DP.mv (by conv => lhs; whnf)) ?_
  refine TO.p (DP.neq (a := 1) (b := 0) rfl rfl) ?_
  refine TO.nil ?_
  refine TQ.nn ?_
  refine T.condD rfl (fun hc0 => ?_) (fun hc0 => ?_)
  · refine T.seq ?_
    refine T.reg ?_
    refine TO.p (DP.mv (by conv => lhs; whnf)) ?_
    refine TO.p (DP.as (by conv => lhs; whnf)) ?_
    refine TO.nil ?_
    refine TQ.nn ?_
    refine T.ret ?_
    refine TQ.nr ?_
    refine TQ.ret (vs := [.int .i64 1]) (L' := []) rfl ⟨rfl, rfl⟩ ⟨rfl, rfl⟩ (by (refine Ent.imp ?_; repeat first | exact Imp.refl _ | exact Imp.nil _ | (apply Imp.pull; focus ((repeat first | exact Del.head _ _ | apply Del.tail); done)) | (apply Imp.row; focus ((repeat first | exact Del.head _ _ | apply Del.tail); done)) | apply Imp.drop))
  · exact absurd (by decide) hc0

theorem lend_bad (p b a l : Nat) (v : Value) (bs : List UInt8) (ss : List Spn) (hbs : bs.length ≤ 1048576) (hlen : ss.length ≤ 1048576) (hb : ∀ s ∈ ss, s.1 + s.2 ≤ 1048576) (ha : a < 4294967296) (hl : l < 4294967296) (h0 : 0 < l) (h : a + l ≤ bs.length) (hs : 0 < sharedN ss a l) :
    Sat Try.prog 44 [.pointer (some ⟨p, 0, none⟩), .agg #[.int .u32 a, .int .u32 l]] [row 70 p [.slice (some ⟨b, 0, none⟩) bs.length bs.length, v], row 5 b (bs.map byteV), sl 110 2 v ss.length (spans ss)] (fun u L' => u = .int .i64 11 ∧ L' = [row 70 p [.slice (some ⟨b, 0, none⟩) bs.length bs.length, v], row 5 b (bs.map byteV), sl 110 2 v ss.length (spans ss)]) := by
  refine Sat.enter Try.func44 rfl Try.ntmps44 rfl (fun c R => ?_)
  try simp only [List.cons_append, List.nil_append]
  refine T.seq ?_
  refine T.reg ?_
  refine TO.n (N.bxA rfl) ?_
  rintro _ _ ⟨b3, rfl, rfl⟩
  refine TO.p (DP.as (by conv => lhs; whnf)) ?_
  refine TO.nil ?_
  refine TQ.nn ?_
  refine T.seq ?_
  refine T.seq ?_
  refine T.reg ?_
  refine TO.p (DP.mv (by conv => lhs; whnf)) ?_
  refine TO.d (D.ldRA rfl ag110 sz110 (by (repeat first | exact LMem.head _ _ | apply LMem.tail)) (by rfl)) ?_
  refine TO.n (N.callF (span_ok p bs.length b a l v hbs ha hl h0 h) Try.call61 ⟨rfl, rfl, trivial⟩ (by (repeat first | exact Pick.nil _ | (apply Pick.cons; focus ((repeat first | exact Del.head _ _ | apply Del.tail); done))))) ?_
  rintro u10 _ ⟨_, ⟨rfl, rfl⟩, rfl⟩
  try simp only [List.cons_append, List.nil_append]
  refine TO.p (DP.as (by conv => lhs; whnf)) ?_
  refine TO.nil ?_
  refine TQ.nn ?_
  refine T.seq ?_
  refine T.reg ?_
  refine TO.p (DP.mv (by conv => lhs; whnf)) ?_
  refine TO.p (DP.neq (a := 0) (b := 0) rfl rfl) ?_
  refine TO.nil ?_
  refine TQ.nn ?_
  refine T.condD rfl (fun hc0 => ?_) (fun hc0 => ?_)
  · exact absurd rfl hc0
  · refine T.skip ?_
    refine TQ.nn ?_
    refine T.seq ?_
    refine T.seq ?_
    refine T.reg ?_
    refine TO.p (DP.mv (by conv => lhs; whnf)) ?_
    refine TO.d (D.ldRA rfl ag110 sz110 (by (repeat first | exact LMem.head _ _ | apply LMem.tail)) (by rfl)) ?_
    refine TO.n (N.callF (shared_spec p a l _ v ss hlen hb ha hl) Try.call47 ⟨rfl, rfl, trivial⟩ (by (repeat first | exact Pick.nil _ | (apply Pick.cons; focus ((repeat first | exact Del.head _ _ | apply Del.tail); done))))) ?_
    rintro u16 _ ⟨_, ⟨rfl, rfl⟩, rfl⟩
    try simp only [List.cons_append, List.nil_append]
    refine TO.p (DP.gtr (b := 0) rfl rfl) ?_
    refine TO.nil ?_
    refine TQ.nn ?_
    refine T.condD rfl (fun hc1 => ?_) (fun hc1 => ?_)
    · refine T.seq ?_
      refine T.reg ?_
      refine TO.p (DP.as (by conv => lhs; whnf)) ?_
      refine TO.nil ?_
      refine TQ.nn ?_
      refine T.ret ?_
      refine TQ.nr ?_
      refine TQ.ret (vs := [.int .i64 11]) (L' := [_, _, _]) rfl ⟨rfl, rfl⟩ ⟨rfl, rfl⟩ (by (refine Ent.imp ?_; repeat first | exact Imp.refl _ | exact Imp.nil _ | (apply Imp.pull; focus ((repeat first | exact Del.head _ _ | apply Del.tail); done)) | (apply Imp.row; focus ((repeat first | exact Del.head _ _ | apply Del.tail); done)) | apply Imp.drop))
    · exact absurd hs (by omega)

theorem lend_ok (p b a l : Nat) (v : Value) (bs : List UInt8) (ss : List Spn) (hbs : bs.length ≤ 1048576) (hlen : ss.length ≤ 1048576) (hb : ∀ s ∈ ss, s.1 + s.2 ≤ 1048576) (ha : a < 4294967296) (hl : l < 4294967296) (h0 : 0 < l) (h : a + l ≤ bs.length) (hs : sharedN ss a l = 0) (hsort : ∀ (m h : Nat) (x y : Spn), m ≤ h → ss[m]? = some x → ss[h]? = some y → x.1 ≤ y.1) :
    Sat Try.prog 44 [.pointer (some ⟨p, 0, none⟩), .agg #[.int .u32 a, .int .u32 l]] [row 70 p [.slice (some ⟨b, 0, none⟩) bs.length bs.length, v], row 5 b (bs.map byteV), sl 110 2 v ss.length (spans ss)] (fun u L' => ∃ v' pre post, u = .int .i64 0 ∧ ss = pre ++ post ∧ (∀ s ∈ pre, s.1 < a) ∧ (∀ s ∈ post, a ≤ s.1) ∧ L' = [row 70 p [.slice (some ⟨b, 0, none⟩) bs.length bs.length, v'], row 5 b (bs.map byteV), sl 110 2 v' (mergeP pre a (mergeN a l post).1 (mergeN a l post).2).length (spans (mergeP pre a (mergeN a l post).1 (mergeN a l post).2))]) := by
  refine Sat.enter Try.func44 rfl Try.ntmps44 rfl (fun c R => ?_)
  try simp only [List.cons_append, List.nil_append]
  refine T.seq ?_
  refine T.reg ?_
  refine TO.n (N.bxA rfl) ?_
  rintro _ _ ⟨b3, rfl, rfl⟩
  refine TO.p (DP.as (by conv => lhs; whnf)) ?_
  refine TO.nil ?_
  refine TQ.nn ?_
  refine T.seq ?_
  refine T.seq ?_
  refine T.reg ?_
  refine TO.p (DP.mv (by conv => lhs; whnf)) ?_
  refine TO.d (D.ldRA rfl ag110 sz110 (by (repeat first | exact LMem.head _ _ | apply LMem.tail)) (by rfl)) ?_
  refine TO.n (N.callF (span_ok p bs.length b a l v hbs ha hl h0 h) Try.call61 ⟨rfl, rfl, trivial⟩ (by (repeat first | exact Pick.nil _ | (apply Pick.cons; focus ((repeat first | exact Del.head _ _ | apply Del.tail); done))))) ?_
  rintro u10 _ ⟨_, ⟨rfl, rfl⟩, rfl⟩
  try simp only [List.cons_append, List.nil_append]
  refine TO.p (DP.as (by conv => lhs; whnf)) ?_
  refine TO.nil ?_
  refine TQ.nn ?_
  refine T.seq ?_
  refine T.reg ?_
  refine TO.p (DP.mv (by conv => lhs; whnf)) ?_
  refine TO.p (DP.neq (a := 0) (b := 0) rfl rfl) ?_
  refine TO.nil ?_
  refine TQ.nn ?_
  refine T.condD rfl (fun hc0 => ?_) (fun hc0 => ?_)
  · exact absurd rfl hc0
  · refine T.skip ?_
    refine TQ.nn ?_
    refine T.seq ?_
    refine T.seq ?_
    refine T.reg ?_
    refine TO.p (DP.mv (by conv => lhs; whnf)) ?_
    refine TO.d (D.ldRA rfl ag110 sz110 (by (repeat first | exact LMem.head _ _ | apply LMem.tail)) (by rfl)) ?_
    refine TO.n (N.callF (shared_spec p a l _ v ss hlen hb ha hl) Try.call47 ⟨rfl, rfl, trivial⟩ (by (repeat first | exact Pick.nil _ | (apply Pick.cons; focus ((repeat first | exact Del.head _ _ | apply Del.tail); done))))) ?_
    rintro u16 _ ⟨_, ⟨rfl, rfl⟩, rfl⟩
    try simp only [List.cons_append, List.nil_append]
    refine TO.p (DP.gtr (b := 0) rfl rfl) ?_
    refine TO.nil ?_
    refine TQ.nn ?_
    refine T.condD rfl (fun hc1 => ?_) (fun hc1 => ?_)
    · exact absurd hc1 (by omega)
    · refine T.skip ?_
      refine TQ.nn ?_
      refine T.seq ?_
      refine T.drawL [5] mixed (by repeat first | exact Calm.rt | apply Calm.t | apply Calm.b | apply Calm.l | apply Calm.ct) ?_
      refine TR.p 0 rfl (by kernel_rfl) (DP.mv (by conv => lhs; whnf)) ?_
      refine TR.p 1 rfl (by kernel_rfl) (DP.nck rfl) ?_
      refine TR.p 2 rfl (by kernel_rfl) (DP.fa 1 rfl Try.underlying70 rfl rfl sz68) ?_
      refine TR.d 3 rfl (by kernel_rfl) (by kernel_rfl) (by (refine Ent.imp ?_; repeat first | exact Imp.refl _ | exact Imp.nil _ | (apply Imp.pull; focus ((repeat first | exact Del.head _ _ | apply Del.tail); done)) | (apply Imp.row; focus ((repeat first | exact Del.head _ _ | apply Del.tail); done)) | apply Imp.drop)) (D.ldR rfl pl68 (by (repeat first | exact LMem.head _ _ | apply LMem.tail)) (by rfl)) ?_
      refine TR.d 4 rfl (by kernel_rfl) (by kernel_rfl) (by (refine Ent.imp ?_; repeat first | exact Imp.refl _ | exact Imp.nil _ | (apply Imp.pull; focus ((repeat first | exact Del.head _ _ | apply Del.tail); done)) | (apply Imp.row; focus ((repeat first | exact Del.head _ _ | apply Del.tail); done)) | apply Imp.drop)) (D.ldRA rfl ag110 sz110 (by (repeat first | exact LMem.head _ _ | apply LMem.tail)) (by rfl)) ?_
      refine TR.n 5 (by kernel_rfl) rfl (N.callF (bsf_spec v ss a l hlen (fun s hs => by have := hb s hs; omega) ha hsort) Try.call62 ⟨rfl, rfl, rfl, trivial⟩ (by (repeat first | exact Pick.nil _ | (apply Pick.cons; focus ((repeat first | exact Del.head _ _ | apply Del.tail); done))))) ?_
      rintro u24 _ ⟨_, ⟨i, fd, rfl, hi, hpre, hpost, rfl⟩, rfl⟩
      try simp only [List.cons_append, List.nil_append]
      refine ⟨.inl rfl, ?_⟩
      refine TR.p 6 rfl (by kernel_rfl) (DP.mv (by conv => lhs; whnf)) ?_
      refine TR.p 7 rfl (by kernel_rfl) (DP.ex rfl rfl) ?_
      refine TR.p 8 rfl (by kernel_rfl) (DP.ex rfl rfl) ?_
      refine TR.p 9 rfl (by kernel_rfl) (DP.as (by conv => lhs; whnf)) ?_
      refine TR.p 10 rfl (by kernel_rfl) (DP.as (by conv => lhs; whnf)) ?_
      refine TR.done (by kernel_rfl) ?_
      refine TQ.nn ?_
      refine T.seq ?_
      refine T.drawL [8, 11] mixed (by repeat first | exact Calm.rt | apply Calm.t | apply Calm.b | apply Calm.l | apply Calm.ct) ?_
      refine TR.p 0 rfl (by kernel_rfl) (DP.mv (by conv => lhs; whnf)) ?_
      refine TR.p 1 rfl (by kernel_rfl) (DP.mv (by conv => lhs; whnf)) ?_
      refine TR.p 2 rfl (by kernel_rfl) (DP.nck rfl) ?_
      refine TR.p 3 rfl (by kernel_rfl) (DP.fa 1 rfl Try.underlying70 rfl rfl sz68) ?_
      refine TR.d 4 rfl (by kernel_rfl) (by kernel_rfl) (by (refine Ent.imp ?_; repeat first | exact Imp.refl _ | exact Imp.nil _ | (apply Imp.pull; focus ((repeat first | exact Del.head _ _ | apply Del.tail); done)) | (apply Imp.row; focus ((repeat first | exact Del.head _ _ | apply Del.tail); done)) | apply Imp.drop)) (D.ldR rfl pl68 (by (repeat first | exact LMem.head _ _ | apply LMem.tail)) (by rfl)) ?_
      refine TR.p 5 rfl (by kernel_rfl) (DP.mv (by conv => lhs; whnf)) ?_
      refine TR.d 6 rfl (by kernel_rfl) (by kernel_rfl) (by (refine Ent.imp ?_; repeat first | exact Imp.refl _ | exact Imp.nil _ | (apply Imp.pull; focus ((repeat first | exact Del.head _ _ | apply Del.tail); done)) | (apply Imp.row; focus ((repeat first | exact Del.head _ _ | apply Del.tail); done)) | apply Imp.drop)) (D.ldRA rfl ag110 sz110 (by (repeat first | exact LMem.head _ _ | apply LMem.tail)) (by rfl)) ?_
      refine TR.n 7 (by kernel_rfl) rfl (N.bsL (len := 1) (vs := [(0, _)]) (us := [_, _]) ⟨rfl, (by conv => lhs; whnf), trivial⟩ Try.underlying68 sz110 zr110 rfl (by omega) rfl) ?_
      rintro _ _ ⟨b34, rfl, rfl⟩
      refine ⟨.inr (by (refine Ent.imp ?_; repeat first | exact Imp.refl _ | exact Imp.nil _ | (apply Imp.pull; focus ((repeat first | exact Del.head _ _ | apply Del.tail); done)) | (apply Imp.row; focus ((repeat first | exact Del.head _ _ | apply Del.tail); done)) | apply Imp.drop)), ?_⟩
      refine TR.n 8 (by kernel_rfl) rfl (N.callF (insert_spec b34 i a l v ss hlen hi) Try.call64 ⟨rfl, rfl, rfl, trivial⟩ (by (repeat first | exact Pick.nil _ | (apply Pick.cons; focus ((repeat first | exact Del.head _ _ | apply Del.tail); done))))) ?_
      rintro u35 _ ⟨_, rfl, rfl⟩
      try simp only [List.cons_append, List.nil_append]
      refine ⟨.inl rfl, ?_⟩
      refine TR.p 9 rfl (by kernel_rfl) (DP.nck rfl) ?_
      refine TR.p 10 rfl (by kernel_rfl) (DP.fa 1 rfl Try.underlying70 rfl rfl sz68) ?_
      refine TR.n0 11 (by kernel_rfl) rfl (N.stS rfl (by conv => lhs; whnf) sz68 (by (repeat first | exact LMem.head _ _ | apply LMem.tail)) (by (repeat first | exact Put.head _ _ _ | apply Put.tail)) (by simp)) ?_
      rintro _ _ ⟨rfl, rfl⟩
      obtain ⟨pre, hpr⟩ : ∃ pre, pre = ss.take i := ⟨_, rfl⟩
      obtain ⟨post, hpo⟩ : ∃ post, post = ss.drop i := ⟨_, rfl⟩
      rw [← hpr] at hpre
      rw [← hpo] at hpost
      rw [← hpr, ← hpo]
      have hss : ss = pre ++ post := by rw [hpr, hpo, List.take_append_drop]
      have hprl : pre.length = i := by rw [hpr, List.length_take]; omega
      have hl1 : (pre ++ (a, l) :: post).length = i + 1 + post.length := by simp; omega
      have hll : ss.length = i + post.length := by rw [hss, List.length_append]; omega
      have hbp : ∀ s ∈ post, s.1 + s.2 ≤ 1048576 := fun s h => hb s (by rw [hss]; simp [h])
      have hbq : ∀ s ∈ pre, s.1 + s.2 ≤ 1048576 := fun s h => hb s (by rw [hss]; simp [h])
      have hx1 : (pre ++ (a, l) :: post)[i]? = some (a, l) := by rw [List.getElem?_append_right (by omega)]; simp [hprl]
      refine ⟨.inl rfl, ?_⟩
      refine TR.done (by kernel_rfl) ?_
      refine TQ.nn ?_
      refine T.cut (S := Value × Nat × List Spn) (fun ⟨v2, l2, post2⟩ => [(0, .pointer (some ⟨p, 0, none⟩)), (3, .pointer (some ⟨b3, 0, none⟩)), (6, .int .i64 (i : Nat))]) (fun ⟨v2, l2, post2⟩ => row 70 p [.slice (some ⟨b, 0, none⟩) bs.length bs.length, v2] :: sl 110 2 v2 (pre ++ (a, l2) :: post2).length (spans (pre ++ (a, l2) :: post2)) :: row 110 b3 [.int .u32 a, .int .u32 l] :: row 5 b (bs.map byteV) :: R) (fun ⟨v2, l2, post2⟩ => (l2, post2) = mergeN a l post ∧ l2 ≤ 2097152) ?_ ?_
      · refine T.seq ?_
        refine T.drawL [] mixed (by repeat first | exact Calm.rt | apply Calm.t | apply Calm.b | apply Calm.l | apply Calm.ct) ?_
        refine TR.p 0 rfl (by kernel_rfl) (DP.mv (by conv => lhs; whnf)) ?_
        refine TR.p 1 rfl (by kernel_rfl) (DP.add (b := 1) rfl rfl (l := 9223372036854775808) rfl (by omega)) ?_
        refine TR.p 2 rfl (by kernel_rfl) (DP.mv (by conv => lhs; whnf)) ?_
        refine TR.p 3 rfl (by kernel_rfl) (DP.nck rfl) ?_
        refine TR.p 4 rfl (by kernel_rfl) (DP.fa 1 rfl Try.underlying70 rfl rfl sz68) ?_
        refine TR.d 5 rfl (by kernel_rfl) (by kernel_rfl) (by (refine Ent.imp ?_; repeat first | exact Imp.refl _ | exact Imp.nil _ | (apply Imp.pull; focus ((repeat first | exact Del.head _ _ | apply Del.tail); done)) | (apply Imp.row; focus ((repeat first | exact Del.head _ _ | apply Del.tail); done)) | apply Imp.drop)) (D.ldR rfl pl68 (by (repeat first | exact LMem.head _ _ | apply LMem.tail)) (by rfl)) ?_
        refine TR.d 6 rfl (by kernel_rfl) (by kernel_rfl) (by (refine Ent.imp ?_; repeat first | exact Imp.refl _ | exact Imp.nil _ | (apply Imp.pull; focus ((repeat first | exact Del.head _ _ | apply Del.tail); done)) | (apply Imp.row; focus ((repeat first | exact Del.head _ _ | apply Del.tail); done)) | apply Imp.drop)) (D.lenO (by conv => lhs; whnf) Try.underlying68 (by (repeat first | exact LMem.head _ _ | apply LMem.tail))) ?_
        refine TR.p 7 rfl (by kernel_rfl) (DP.lss rfl rfl) ?_
        refine TR.pB 8 rfl (by kernel_rfl) (DP.mv (by conv => lhs; whnf)) (fun hg46 => ?_) (fun hg46 => ?_)
        · obtain ⟨x2, post2, rfl⟩ : ∃ x t, post = x :: t := by
            cases post with
            | nil => simp only [List.length_nil] at hl1; omega
            | cons x t => exact ⟨x, t, rfl⟩
          have hx2 : (pre ++ (a, l) :: x2 :: post2)[i + 1]? = some x2 := by rw [List.getElem?_append_right (by omega)]; simp [hprl]
          have hx2b := hbp x2 (by simp)
          simp only [List.length_cons] at hl1 hll
          refine TR.don 9 rfl (by kernel_rfl) (by kernel_rfl) (by (refine Ent.imp ?_; repeat first | exact Imp.refl _ | exact Imp.nil _ | (apply Imp.pull; focus ((repeat first | exact Del.head _ _ | apply Del.tail); done)) | (apply Imp.row; focus ((repeat first | exact Del.head _ _ | apply Del.tail); done)) | apply Imp.drop)) rfl (D.ldRA rfl ag110 sz110 (by (repeat first | exact LMem.head _ _ | apply LMem.tail)) (by rfl)) ?_
          refine TR.pon 11 rfl (by kernel_rfl) rfl (DP.mv (by conv => lhs; whnf)) ?_
          refine TR.pon 12 rfl (by kernel_rfl) rfl (DP.nck rfl) ?_
          refine TR.pon 13 rfl (by kernel_rfl) rfl (DP.fa 1 rfl Try.underlying70 rfl rfl sz68) ?_
          refine TR.don 14 rfl (by kernel_rfl) (by kernel_rfl) (by (refine Ent.imp ?_; repeat first | exact Imp.refl _ | exact Imp.nil _ | (apply Imp.pull; focus ((repeat first | exact Del.head _ _ | apply Del.tail); done)) | (apply Imp.row; focus ((repeat first | exact Del.head _ _ | apply Del.tail); done)) | apply Imp.drop)) rfl (D.ldR rfl pl68 (by (repeat first | exact LMem.head _ _ | apply LMem.tail)) (by rfl)) ?_
          refine TR.pon 15 rfl (by kernel_rfl) rfl (DP.mv (by conv => lhs; whnf)) ?_
          refine TR.pon 16 rfl (by kernel_rfl) rfl (DP.add (b := 1) rfl rfl (l := 9223372036854775808) rfl (by omega)) ?_
          refine TR.don 17 rfl (by kernel_rfl) (by kernel_rfl) (by (refine Ent.imp ?_; repeat first | exact Imp.refl _ | exact Imp.nil _ | (apply Imp.pull; focus ((repeat first | exact Del.head _ _ | apply Del.tail); done)) | (apply Imp.row; focus ((repeat first | exact Del.head _ _ | apply Del.tail); done)) | apply Imp.drop)) rfl (D.iasO (by conv => lhs; whnf) rfl Try.underlying68 sz110 (by (repeat first | exact LMem.head _ _ | apply LMem.tail)) (by omega)) ?_
          refine TR.don 18 rfl (by kernel_rfl) (by kernel_rfl) (by (refine Ent.imp ?_; repeat first | exact Imp.refl _ | exact Imp.nil _ | (apply Imp.pull; focus ((repeat first | exact Del.head _ _ | apply Del.tail); done)) | (apply Imp.row; focus ((repeat first | exact Del.head _ _ | apply Del.tail); done)) | apply Imp.drop)) rfl (D.faO 0 (by conv => lhs; whnf) Try.underlying110 rfl rfl sz30 (by (repeat first | exact LMem.head _ _ | apply LMem.tail)) (by omega)) ?_
          refine TR.don 19 rfl (by kernel_rfl) (by kernel_rfl) (by (refine Ent.imp ?_; repeat first | exact Imp.refl _ | exact Imp.nil _ | (apply Imp.pull; focus ((repeat first | exact Del.head _ _ | apply Del.tail); done)) | (apply Imp.row; focus ((repeat first | exact Del.head _ _ | apply Del.tail); done)) | apply Imp.drop)) rfl (D.ldOF (by conv => lhs; whnf) pl30 (by (repeat first | exact LMem.head _ _ | apply LMem.tail)) (spans_at hx2) (by omega)) ?_
          refine TR.pon 20 rfl (by kernel_rfl) rfl (DP.cv rfl is30 Try.underlying63 (l := 18446744073709551616) rfl (by omega)) ?_
          refine TR.non 10 (by kernel_rfl) rfl rfl (N.callF (end_spec a l ha hl) Try.call65 ⟨rfl, trivial⟩ (by (repeat first | exact Pick.nil _ | (apply Pick.cons; focus ((repeat first | exact Del.head _ _ | apply Del.tail); done))))) ?_
          rintro u48 _ ⟨_, ⟨rfl, rfl⟩, rfl⟩
          try simp only [List.cons_append, List.nil_append]
          refine ⟨.inr (by (refine Ent.imp ?_; repeat first | exact Imp.refl _ | exact Imp.nil _ | (apply Imp.pull; focus ((repeat first | exact Del.head _ _ | apply Del.tail); done)) | (apply Imp.row; focus ((repeat first | exact Del.head _ _ | apply Del.tail); done)) | apply Imp.drop)), ?_⟩
          refine TR.pon 21 rfl (by kernel_rfl) rfl (DP.eql rfl rfl) ?_
          refine TR.p 22 rfl (by kernel_rfl) (DP.pkT rfl (by conv => lhs; whnf)) ?_
          refine TR.done (by kernel_rfl) ?_
          refine TQ.nn ?_
          refine T.condD rfl (fun hc2 => ?_) (fun hc2 => ?_)
          · have h68 := spans_ln hx1
            have h77 := spans_ln hx2
            refine T.seq ?_
            refine T.drawL [20] mixed (by repeat first | exact Calm.rt | apply Calm.t | apply Calm.b | apply Calm.l | apply Calm.ct) ?_
            refine TR.p 0 rfl (by kernel_rfl) (DP.mv (by conv => lhs; whnf)) ?_
            refine TR.p 1 rfl (by kernel_rfl) (DP.nck rfl) ?_
            refine TR.p 2 rfl (by kernel_rfl) (DP.fa 1 rfl Try.underlying70 rfl rfl sz68) ?_
            refine TR.d 3 rfl (by kernel_rfl) (by kernel_rfl) (by (refine Ent.imp ?_; repeat first | exact Imp.refl _ | exact Imp.nil _ | (apply Imp.pull; focus ((repeat first | exact Del.head _ _ | apply Del.tail); done)) | (apply Imp.row; focus ((repeat first | exact Del.head _ _ | apply Del.tail); done)) | apply Imp.drop)) (D.ldR rfl pl68 (by (repeat first | exact LMem.head _ _ | apply LMem.tail)) (by rfl)) ?_
            refine TR.p 4 rfl (by kernel_rfl) (DP.mv (by conv => lhs; whnf)) ?_
            refine TR.d 5 rfl (by kernel_rfl) (by kernel_rfl) (by (refine Ent.imp ?_; repeat first | exact Imp.refl _ | exact Imp.nil _ | (apply Imp.pull; focus ((repeat first | exact Del.head _ _ | apply Del.tail); done)) | (apply Imp.row; focus ((repeat first | exact Del.head _ _ | apply Del.tail); done)) | apply Imp.drop)) (D.iasO (by conv => lhs; whnf) rfl Try.underlying68 sz110 (by (repeat first | exact LMem.head _ _ | apply LMem.tail)) (by omega)) ?_
            refine TR.d 6 rfl (by kernel_rfl) (by kernel_rfl) (by (refine Ent.imp ?_; repeat first | exact Imp.refl _ | exact Imp.nil _ | (apply Imp.pull; focus ((repeat first | exact Del.head _ _ | apply Del.tail); done)) | (apply Imp.row; focus ((repeat first | exact Del.head _ _ | apply Del.tail); done)) | apply Imp.drop)) (D.faO 1 (by conv => lhs; whnf) Try.underlying110 rfl rfl sz30 (by (repeat first | exact LMem.head _ _ | apply LMem.tail)) (by omega)) ?_
            refine TR.d 7 rfl (by kernel_rfl) (by kernel_rfl) (by (refine Ent.imp ?_; repeat first | exact Imp.refl _ | exact Imp.nil _ | (apply Imp.pull; focus ((repeat first | exact Del.head _ _ | apply Del.tail); done)) | (apply Imp.row; focus ((repeat first | exact Del.head _ _ | apply Del.tail); done)) | apply Imp.drop)) (D.ldOF (by conv => lhs; whnf) pl30 (by (repeat first | exact LMem.head _ _ | apply LMem.tail)) h68 (by omega)) ?_
            refine TR.p 8 rfl (by kernel_rfl) (DP.mv (by conv => lhs; whnf)) ?_
            refine TR.p 9 rfl (by kernel_rfl) (DP.nck rfl) ?_
            refine TR.p 10 rfl (by kernel_rfl) (DP.fa 1 rfl Try.underlying70 rfl rfl sz68) ?_
            refine TR.d 11 rfl (by kernel_rfl) (by kernel_rfl) (by (refine Ent.imp ?_; repeat first | exact Imp.refl _ | exact Imp.nil _ | (apply Imp.pull; focus ((repeat first | exact Del.head _ _ | apply Del.tail); done)) | (apply Imp.row; focus ((repeat first | exact Del.head _ _ | apply Del.tail); done)) | apply Imp.drop)) (D.ldR rfl pl68 (by (repeat first | exact LMem.head _ _ | apply LMem.tail)) (by rfl)) ?_
            refine TR.p 12 rfl (by kernel_rfl) (DP.mv (by conv => lhs; whnf)) ?_
            refine TR.p 13 rfl (by kernel_rfl) (DP.add (b := 1) rfl rfl (l := 9223372036854775808) rfl (by omega)) ?_
            refine TR.d 14 rfl (by kernel_rfl) (by kernel_rfl) (by (refine Ent.imp ?_; repeat first | exact Imp.refl _ | exact Imp.nil _ | (apply Imp.pull; focus ((repeat first | exact Del.head _ _ | apply Del.tail); done)) | (apply Imp.row; focus ((repeat first | exact Del.head _ _ | apply Del.tail); done)) | apply Imp.drop)) (D.iasO (by conv => lhs; whnf) rfl Try.underlying68 sz110 (by (repeat first | exact LMem.head _ _ | apply LMem.tail)) (by omega)) ?_
            refine TR.d 15 rfl (by kernel_rfl) (by kernel_rfl) (by (refine Ent.imp ?_; repeat first | exact Imp.refl _ | exact Imp.nil _ | (apply Imp.pull; focus ((repeat first | exact Del.head _ _ | apply Del.tail); done)) | (apply Imp.row; focus ((repeat first | exact Del.head _ _ | apply Del.tail); done)) | apply Imp.drop)) (D.faO 1 (by conv => lhs; whnf) Try.underlying110 rfl rfl sz30 (by (repeat first | exact LMem.head _ _ | apply LMem.tail)) (by omega)) ?_
            refine TR.d 16 rfl (by kernel_rfl) (by kernel_rfl) (by (refine Ent.imp ?_; repeat first | exact Imp.refl _ | exact Imp.nil _ | (apply Imp.pull; focus ((repeat first | exact Del.head _ _ | apply Del.tail); done)) | (apply Imp.row; focus ((repeat first | exact Del.head _ _ | apply Del.tail); done)) | apply Imp.drop)) (D.ldOF (by conv => lhs; whnf) pl30 (by (repeat first | exact LMem.head _ _ | apply LMem.tail)) h77 (by omega)) ?_
            refine TR.p 17 rfl (by kernel_rfl) (DP.add rfl rfl (l := 4294967296) rfl (by omega)) ?_
            refine TR.d 18 rfl (by kernel_rfl) (by kernel_rfl) (by (refine Ent.imp ?_; repeat first | exact Imp.refl _ | exact Imp.nil _ | (apply Imp.pull; focus ((repeat first | exact Del.head _ _ | apply Del.tail); done)) | (apply Imp.row; focus ((repeat first | exact Del.head _ _ | apply Del.tail); done)) | apply Imp.drop)) (D.iasO (by conv => lhs; whnf) rfl Try.underlying68 sz110 (by (repeat first | exact LMem.head _ _ | apply LMem.tail)) (by omega)) ?_
            refine TR.d 19 rfl (by kernel_rfl) (by kernel_rfl) (by (refine Ent.imp ?_; repeat first | exact Imp.refl _ | exact Imp.nil _ | (apply Imp.pull; focus ((repeat first | exact Del.head _ _ | apply Del.tail); done)) | (apply Imp.row; focus ((repeat first | exact Del.head _ _ | apply Del.tail); done)) | apply Imp.drop)) (D.faO 1 (by conv => lhs; whnf) Try.underlying110 rfl rfl sz30 (by (repeat first | exact LMem.head _ _ | apply LMem.tail)) (by omega)) ?_
            refine TR.n0 20 (by kernel_rfl) rfl (N.stOF (by conv => lhs; whnf) (by conv => lhs; whnf) sz30 (by (repeat first | exact Put.head _ _ _ | apply Put.tail)) (by omega) (by decide) rfl) ?_
            rintro _ _ ⟨rfl, rfl⟩
            rw [spans_set hx1, show (pre ++ (a, l) :: x2 :: post2).set i (a, l + x2.2) = pre ++ (a, l + x2.2) :: x2 :: post2 by rw [List.set_append_right _ _ (by omega)]; simp [hprl], show (pre ++ (a, l) :: x2 :: post2).length = (pre ++ (a, l + x2.2) :: x2 :: post2).length by simp]
            have hl3 : (pre ++ (a, l + x2.2) :: x2 :: post2).length = i + 1 + (post2.length + 1) := by rw [← hl1]; simp
            refine ⟨.inl rfl, ?_⟩
            refine TR.done (by kernel_rfl) ?_
            refine TQ.nn ?_
            refine T.reg ?_
            refine TO.p (DP.mv (by conv => lhs; whnf)) ?_
            refine TO.p (DP.mv (by conv => lhs; whnf)) ?_
            refine TO.p (DP.nck rfl) ?_
            refine TO.p (DP.fa 1 rfl Try.underlying70 rfl rfl sz68) ?_
            refine TO.d (D.ldR rfl pl68 (by (repeat first | exact LMem.head _ _ | apply LMem.tail)) (by rfl)) ?_
            refine TO.p (DP.mv (by conv => lhs; whnf)) ?_
            refine TO.p (DP.add (b := 1) rfl rfl (l := 9223372036854775808) rfl (by omega)) ?_
            refine TO.p (DP.mv (by conv => lhs; whnf)) ?_
            refine TO.p (DP.to (v' := .int .i64 ((i + 1 + 1 : Nat) : Int)) (DP.add (b := 2) rfl rfl (l := 9223372036854775808) rfl (by omega)) rfl) ?_
            refine TO.n (N.callF (delete_spec (i + 1) u35 (pre ++ (a, l + x2.2) :: x2 :: post2) (by omega) (by omega)) Try.call66 ⟨rfl, rfl, rfl, trivial⟩ (by (repeat first | exact Pick.nil _ | (apply Pick.cons; focus ((repeat first | exact Del.head _ _ | apply Del.tail); done))))) ?_
            rintro u90 _ ⟨_, rfl, rfl⟩
            try simp only [List.cons_append, List.nil_append]
            rw [show (pre ++ (a, l + x2.2) :: x2 :: post2).take (i + 1) ++ (pre ++ (a, l + x2.2) :: x2 :: post2).drop (i + 1 + 1) = pre ++ (a, l + x2.2) :: post2 by subst hprl; exact del_next _ _ _ _]
            refine TO.p (DP.nck rfl) ?_
            refine TO.p (DP.fa 1 rfl Try.underlying70 rfl rfl sz68) ?_
            refine TO.n0 (N.stS rfl (by conv => lhs; whnf) sz68 (by (repeat first | exact LMem.head _ _ | apply LMem.tail)) (by (repeat first | exact Put.head _ _ _ | apply Put.tail)) (by simp)) ?_
            rintro _ _ ⟨rfl, rfl⟩
            refine TO.nil ?_
            refine TQ.cn ⟨u90, l + x2.2, post2⟩ rfl ?_ ?_ ?_
            · (repeat first | exact trivial | refine ⟨rfl, ?_⟩)
            · exact ⟨by simp [mergeN]; try assumption, by (try dsimp only); omega⟩
            · (refine Ent.imp ?_; repeat first | exact Imp.refl _ | exact Imp.nil _ | (apply Imp.pull; focus ((repeat first | exact Del.head _ _ | apply Del.tail); done)) | (apply Imp.row; focus ((repeat first | exact Del.head _ _ | apply Del.tail); done)) | apply Imp.drop)
          · refine T.skip ?_
            refine TQ.cn ⟨u35, l, x2 :: post2⟩ rfl ?_ ?_ ?_
            · (repeat first | exact trivial | refine ⟨rfl, ?_⟩)
            · exact ⟨by simp [mergeN]; try assumption, by (try dsimp only); omega⟩
            · (refine Ent.imp ?_; repeat first | exact Imp.refl _ | exact Imp.nil _ | (apply Imp.pull; focus ((repeat first | exact Del.head _ _ | apply Del.tail); done)) | (apply Imp.row; focus ((repeat first | exact Del.head _ _ | apply Del.tail); done)) | apply Imp.drop)
        · obtain rfl : post = [] := List.eq_nil_of_length_eq_zero (by omega)
          refine TR.off 9 rfl (by kernel_rfl) rfl rfl ?_
          refine TR.off 10 rfl (by kernel_rfl) rfl rfl ?_
          refine TR.off 11 rfl (by kernel_rfl) rfl rfl ?_
          refine TR.off 12 rfl (by kernel_rfl) rfl rfl ?_
          refine TR.off 13 rfl (by kernel_rfl) rfl rfl ?_
          refine TR.off 14 rfl (by kernel_rfl) rfl rfl ?_
          refine TR.off 15 rfl (by kernel_rfl) rfl rfl ?_
          refine TR.off 16 rfl (by kernel_rfl) rfl rfl ?_
          refine TR.off 17 rfl (by kernel_rfl) rfl rfl ?_
          refine TR.off 18 rfl (by kernel_rfl) rfl rfl ?_
          refine TR.off 19 rfl (by kernel_rfl) rfl rfl ?_
          refine TR.off 20 rfl (by kernel_rfl) rfl rfl ?_
          refine TR.off 21 rfl (by kernel_rfl) rfl rfl ?_
          refine TR.p 22 rfl (by kernel_rfl) (DP.pkF rfl (by conv => lhs; whnf)) ?_
          refine TR.done (by kernel_rfl) ?_
          refine TQ.nn ?_
          refine T.condF rfl ?_
          refine T.skip ?_
          refine TQ.cn ⟨u35, l, []⟩ rfl ?_ ?_ ?_
          · (repeat first | exact trivial | refine ⟨rfl, ?_⟩)
          · exact ⟨by simp [mergeN]; try assumption, by (try dsimp only); omega⟩
          · (refine Ent.imp ?_; repeat first | exact Imp.refl _ | exact Imp.nil _ | (apply Imp.pull; focus ((repeat first | exact Del.head _ _ | apply Del.tail); done)) | (apply Imp.row; focus ((repeat first | exact Del.head _ _ | apply Del.tail); done)) | apply Imp.drop)
      rintro ⟨v2, l2, post3⟩ g ⟨hI, hl2⟩
      try dsimp only
      refine T.seq ?_
      refine T.seq ?_
      refine T.drawL [] mixed (by repeat first | exact Calm.rt | apply Calm.t | apply Calm.b | apply Calm.l | apply Calm.ct) ?_
      refine TR.p 0 rfl (by kernel_rfl) (DP.mv (by conv => lhs; whnf)) ?_
      refine TR.p 1 rfl (by kernel_rfl) (DP.gtr (b := 0) rfl rfl) ?_
      refine TR.pB 2 rfl (by kernel_rfl) (DP.mv (by conv => lhs; whnf)) (fun hg95 => ?_) (fun hg95 => ?_)
      · obtain ⟨q, x0, rfl⟩ : ∃ q x0, pre = q ++ [x0] := by
          rcases List.eq_nil_or_concat pre with h | ⟨q, x0, h⟩
          · subst h; simp at hprl; omega
          · exact ⟨q, x0, by rw [h, List.concat_eq_append]⟩
        obtain rfl : i = q.length + 1 := by rw [← hprl]; simp
        have hx0 : (q ++ [x0] ++ (a, l2) :: post3)[q.length]? = some x0 := by simp
        have hx1' : (q ++ [x0] ++ (a, l2) :: post3)[q.length + 1]? = some (a, l2) := by simp
        have hx0b := hbq x0 (by simp)
        have hu0 := flat_elem spv_len hx0
        have hl4 : (q ++ [x0] ++ (a, l2) :: post3).length = q.length + 1 + 1 + post3.length := by simp; omega
        have hp3 : post3.length ≤ post.length := by have h := mergeN_len a l post; rw [← hI] at h; exact h
        have h118 := spans_ln hx0
        have h126 := spans_ln hx1'
        refine TR.pon 3 rfl (by kernel_rfl) rfl (DP.mv (by conv => lhs; whnf)) ?_
        refine TR.pon 4 rfl (by kernel_rfl) rfl (DP.nck rfl) ?_
        refine TR.pon 5 rfl (by kernel_rfl) rfl (DP.fa 1 rfl Try.underlying70 rfl rfl sz68) ?_
        refine TR.don 6 rfl (by kernel_rfl) (by kernel_rfl) (by (refine Ent.imp ?_; repeat first | exact Imp.refl _ | exact Imp.nil _ | (apply Imp.pull; focus ((repeat first | exact Del.head _ _ | apply Del.tail); done)) | (apply Imp.row; focus ((repeat first | exact Del.head _ _ | apply Del.tail); done)) | apply Imp.drop)) rfl (D.ldR rfl pl68 (by (repeat first | exact LMem.head _ _ | apply LMem.tail)) (by rfl)) ?_
        refine TR.pon 7 rfl (by kernel_rfl) rfl (DP.mv (by conv => lhs; whnf)) ?_
        refine TR.pon 8 rfl (by kernel_rfl) rfl (DP.to (v' := .int .i64 (q.length : Nat)) (DP.sub (b := 1) rfl rfl (l := 9223372036854775808) rfl (by omega) (by omega)) rfl) ?_
        refine TR.don 9 rfl (by kernel_rfl) (by kernel_rfl) (by (refine Ent.imp ?_; repeat first | exact Imp.refl _ | exact Imp.nil _ | (apply Imp.pull; focus ((repeat first | exact Del.head _ _ | apply Del.tail); done)) | (apply Imp.row; focus ((repeat first | exact Del.head _ _ | apply Del.tail); done)) | apply Imp.drop)) rfl (D.iasO (by conv => lhs; whnf) rfl Try.underlying68 sz110 (by (repeat first | exact LMem.head _ _ | apply LMem.tail)) (by omega)) ?_
        refine TR.don 10 rfl (by kernel_rfl) (by kernel_rfl) (by (refine Ent.imp ?_; repeat first | exact Imp.refl _ | exact Imp.nil _ | (apply Imp.pull; focus ((repeat first | exact Del.head _ _ | apply Del.tail); done)) | (apply Imp.row; focus ((repeat first | exact Del.head _ _ | apply Del.tail); done)) | apply Imp.drop)) rfl (D.ldOA (us := [.int .u32 x0.1, .int .u32 x0.2]) (by conv => lhs; whnf) ag110 sz110 (by (repeat first | exact LMem.head _ _ | apply LMem.tail)) (by omega) hu0 rfl) ?_
        refine TR.pon 12 rfl (by kernel_rfl) rfl (DP.fa 0 rfl Try.underlying110 rfl rfl sz30) ?_
        refine TR.don 13 rfl (by kernel_rfl) (by kernel_rfl) (by (refine Ent.imp ?_; repeat first | exact Imp.refl _ | exact Imp.nil _ | (apply Imp.pull; focus ((repeat first | exact Del.head _ _ | apply Del.tail); done)) | (apply Imp.row; focus ((repeat first | exact Del.head _ _ | apply Del.tail); done)) | apply Imp.drop)) rfl (D.ldR rfl pl30 (by (repeat first | exact LMem.head _ _ | apply LMem.tail)) (by rfl)) ?_
        refine TR.pon 14 rfl (by kernel_rfl) rfl (DP.cv rfl is30 Try.underlying63 (l := 18446744073709551616) rfl (by omega)) ?_
        refine TR.non 11 (by kernel_rfl) rfl rfl (N.callF (end_spec x0.1 x0.2 (by omega) (by omega)) Try.call65 ⟨rfl, trivial⟩ (by (repeat first | exact Pick.nil _ | (apply Pick.cons; focus ((repeat first | exact Del.head _ _ | apply Del.tail); done))))) ?_
        rintro u104 _ ⟨_, ⟨rfl, rfl⟩, rfl⟩
        try simp only [List.cons_append, List.nil_append]
        refine ⟨.inr (by (refine Ent.imp ?_; repeat first | exact Imp.refl _ | exact Imp.nil _ | (apply Imp.pull; focus ((repeat first | exact Del.head _ _ | apply Del.tail); done)) | (apply Imp.row; focus ((repeat first | exact Del.head _ _ | apply Del.tail); done)) | apply Imp.drop)), ?_⟩
        refine TR.pon 15 rfl (by kernel_rfl) rfl (DP.eql rfl rfl) ?_
        refine TR.p 16 rfl (by kernel_rfl) (DP.pkT rfl (by conv => lhs; whnf)) ?_
        refine TR.done (by kernel_rfl) ?_
        refine TQ.nn ?_
        refine T.condD rfl (fun hc3 => ?_) (fun hc3 => ?_)
        · refine T.seq ?_
          refine T.drawL [20] mixed (by repeat first | exact Calm.rt | apply Calm.t | apply Calm.b | apply Calm.l | apply Calm.ct) ?_
          refine TR.p 0 rfl (by kernel_rfl) (DP.mv (by conv => lhs; whnf)) ?_
          refine TR.p 1 rfl (by kernel_rfl) (DP.nck rfl) ?_
          refine TR.p 2 rfl (by kernel_rfl) (DP.fa 1 rfl Try.underlying70 rfl rfl sz68) ?_
          refine TR.d 3 rfl (by kernel_rfl) (by kernel_rfl) (by (refine Ent.imp ?_; repeat first | exact Imp.refl _ | exact Imp.nil _ | (apply Imp.pull; focus ((repeat first | exact Del.head _ _ | apply Del.tail); done)) | (apply Imp.row; focus ((repeat first | exact Del.head _ _ | apply Del.tail); done)) | apply Imp.drop)) (D.ldR rfl pl68 (by (repeat first | exact LMem.head _ _ | apply LMem.tail)) (by rfl)) ?_
          refine TR.p 4 rfl (by kernel_rfl) (DP.mv (by conv => lhs; whnf)) ?_
          refine TR.p 5 rfl (by kernel_rfl) (DP.to (v' := .int .i64 (q.length : Nat)) (DP.sub (b := 1) rfl rfl (l := 9223372036854775808) rfl (by omega) (by omega)) rfl) ?_
          refine TR.d 6 rfl (by kernel_rfl) (by kernel_rfl) (by (refine Ent.imp ?_; repeat first | exact Imp.refl _ | exact Imp.nil _ | (apply Imp.pull; focus ((repeat first | exact Del.head _ _ | apply Del.tail); done)) | (apply Imp.row; focus ((repeat first | exact Del.head _ _ | apply Del.tail); done)) | apply Imp.drop)) (D.iasO (by conv => lhs; whnf) rfl Try.underlying68 sz110 (by (repeat first | exact LMem.head _ _ | apply LMem.tail)) (by omega)) ?_
          refine TR.d 7 rfl (by kernel_rfl) (by kernel_rfl) (by (refine Ent.imp ?_; repeat first | exact Imp.refl _ | exact Imp.nil _ | (apply Imp.pull; focus ((repeat first | exact Del.head _ _ | apply Del.tail); done)) | (apply Imp.row; focus ((repeat first | exact Del.head _ _ | apply Del.tail); done)) | apply Imp.drop)) (D.faO 1 (by conv => lhs; whnf) Try.underlying110 rfl rfl sz30 (by (repeat first | exact LMem.head _ _ | apply LMem.tail)) (by omega)) ?_
          refine TR.d 8 rfl (by kernel_rfl) (by kernel_rfl) (by (refine Ent.imp ?_; repeat first | exact Imp.refl _ | exact Imp.nil _ | (apply Imp.pull; focus ((repeat first | exact Del.head _ _ | apply Del.tail); done)) | (apply Imp.row; focus ((repeat first | exact Del.head _ _ | apply Del.tail); done)) | apply Imp.drop)) (D.ldOF (by conv => lhs; whnf) pl30 (by (repeat first | exact LMem.head _ _ | apply LMem.tail)) h118 (by omega)) ?_
          refine TR.p 9 rfl (by kernel_rfl) (DP.mv (by conv => lhs; whnf)) ?_
          refine TR.p 10 rfl (by kernel_rfl) (DP.nck rfl) ?_
          refine TR.p 11 rfl (by kernel_rfl) (DP.fa 1 rfl Try.underlying70 rfl rfl sz68) ?_
          refine TR.d 12 rfl (by kernel_rfl) (by kernel_rfl) (by (refine Ent.imp ?_; repeat first | exact Imp.refl _ | exact Imp.nil _ | (apply Imp.pull; focus ((repeat first | exact Del.head _ _ | apply Del.tail); done)) | (apply Imp.row; focus ((repeat first | exact Del.head _ _ | apply Del.tail); done)) | apply Imp.drop)) (D.ldR rfl pl68 (by (repeat first | exact LMem.head _ _ | apply LMem.tail)) (by rfl)) ?_
          refine TR.p 13 rfl (by kernel_rfl) (DP.mv (by conv => lhs; whnf)) ?_
          refine TR.d 14 rfl (by kernel_rfl) (by kernel_rfl) (by (refine Ent.imp ?_; repeat first | exact Imp.refl _ | exact Imp.nil _ | (apply Imp.pull; focus ((repeat first | exact Del.head _ _ | apply Del.tail); done)) | (apply Imp.row; focus ((repeat first | exact Del.head _ _ | apply Del.tail); done)) | apply Imp.drop)) (D.iasO (by conv => lhs; whnf) rfl Try.underlying68 sz110 (by (repeat first | exact LMem.head _ _ | apply LMem.tail)) (by omega)) ?_
          refine TR.d 15 rfl (by kernel_rfl) (by kernel_rfl) (by (refine Ent.imp ?_; repeat first | exact Imp.refl _ | exact Imp.nil _ | (apply Imp.pull; focus ((repeat first | exact Del.head _ _ | apply Del.tail); done)) | (apply Imp.row; focus ((repeat first | exact Del.head _ _ | apply Del.tail); done)) | apply Imp.drop)) (D.faO 1 (by conv => lhs; whnf) Try.underlying110 rfl rfl sz30 (by (repeat first | exact LMem.head _ _ | apply LMem.tail)) (by omega)) ?_
          refine TR.d 16 rfl (by kernel_rfl) (by kernel_rfl) (by (refine Ent.imp ?_; repeat first | exact Imp.refl _ | exact Imp.nil _ | (apply Imp.pull; focus ((repeat first | exact Del.head _ _ | apply Del.tail); done)) | (apply Imp.row; focus ((repeat first | exact Del.head _ _ | apply Del.tail); done)) | apply Imp.drop)) (D.ldOF (by conv => lhs; whnf) pl30 (by (repeat first | exact LMem.head _ _ | apply LMem.tail)) h126 (by omega)) ?_
          refine TR.p 17 rfl (by kernel_rfl) (DP.add rfl rfl (l := 4294967296) rfl (by omega)) ?_
          refine TR.d 18 rfl (by kernel_rfl) (by kernel_rfl) (by (refine Ent.imp ?_; repeat first | exact Imp.refl _ | exact Imp.nil _ | (apply Imp.pull; focus ((repeat first | exact Del.head _ _ | apply Del.tail); done)) | (apply Imp.row; focus ((repeat first | exact Del.head _ _ | apply Del.tail); done)) | apply Imp.drop)) (D.iasO (by conv => lhs; whnf) rfl Try.underlying68 sz110 (by (repeat first | exact LMem.head _ _ | apply LMem.tail)) (by omega)) ?_
          refine TR.d 19 rfl (by kernel_rfl) (by kernel_rfl) (by (refine Ent.imp ?_; repeat first | exact Imp.refl _ | exact Imp.nil _ | (apply Imp.pull; focus ((repeat first | exact Del.head _ _ | apply Del.tail); done)) | (apply Imp.row; focus ((repeat first | exact Del.head _ _ | apply Del.tail); done)) | apply Imp.drop)) (D.faO 1 (by conv => lhs; whnf) Try.underlying110 rfl rfl sz30 (by (repeat first | exact LMem.head _ _ | apply LMem.tail)) (by omega)) ?_
          refine TR.n0 20 (by kernel_rfl) rfl (N.stOF (by conv => lhs; whnf) (by conv => lhs; whnf) sz30 (by (repeat first | exact Put.head _ _ _ | apply Put.tail)) (by omega) (by decide) rfl) ?_
          rintro _ _ ⟨rfl, rfl⟩
          rw [spans_set hx0, show (q ++ [x0] ++ (a, l2) :: post3).set q.length (x0.1, x0.2 + l2) = q ++ (x0.1, x0.2 + l2) :: (a, l2) :: post3 by simp, show (q ++ [x0] ++ (a, l2) :: post3).length = (q ++ (x0.1, x0.2 + l2) :: (a, l2) :: post3).length by simp]
          have hl5 : (q ++ (x0.1, x0.2 + l2) :: (a, l2) :: post3).length = q.length + 1 + 1 + post3.length := by rw [← hl4]; simp
          refine ⟨.inl rfl, ?_⟩
          refine TR.done (by kernel_rfl) ?_
          refine TQ.nn ?_
          refine T.reg ?_
          refine TO.p (DP.mv (by conv => lhs; whnf)) ?_
          refine TO.p (DP.mv (by conv => lhs; whnf)) ?_
          refine TO.p (DP.nck rfl) ?_
          refine TO.p (DP.fa 1 rfl Try.underlying70 rfl rfl sz68) ?_
          refine TO.d (D.ldR rfl pl68 (by (repeat first | exact LMem.head _ _ | apply LMem.tail)) (by rfl)) ?_
          refine TO.p (DP.mv (by conv => lhs; whnf)) ?_
          refine TO.p (DP.mv (by conv => lhs; whnf)) ?_
          refine TO.p (DP.add (b := 1) rfl rfl (l := 9223372036854775808) rfl (by omega)) ?_
          refine TO.n (N.callF (delete_spec (q.length + 1) v2 (q ++ (x0.1, x0.2 + l2) :: (a, l2) :: post3) (by omega) (by omega)) Try.call66 ⟨rfl, rfl, rfl, trivial⟩ (by (repeat first | exact Pick.nil _ | (apply Pick.cons; focus ((repeat first | exact Del.head _ _ | apply Del.tail); done))))) ?_
          rintro u138 _ ⟨_, rfl, rfl⟩
          try simp only [List.cons_append, List.nil_append]
          rw [show (q ++ (x0.1, x0.2 + l2) :: (a, l2) :: post3).take (q.length + 1) ++ (q ++ (x0.1, x0.2 + l2) :: (a, l2) :: post3).drop (q.length + 1 + 1) = q ++ (x0.1, x0.2 + l2) :: post3 by exact del_next _ _ _ _]
          refine TO.p (DP.nck rfl) ?_
          refine TO.p (DP.fa 1 rfl Try.underlying70 rfl rfl sz68) ?_
          refine TO.n0 (N.stS rfl (by conv => lhs; whnf) sz68 (by (repeat first | exact LMem.head _ _ | apply LMem.tail)) (by (repeat first | exact Put.head _ _ _ | apply Put.tail)) (by simp)) ?_
          rintro _ _ ⟨rfl, rfl⟩
          refine TO.nil ?_
          refine TQ.nn ?_
          refine T.seq ?_
          refine T.reg ?_
          refine TO.p (DP.as (by conv => lhs; whnf)) ?_
          refine TO.nil ?_
          refine TQ.nn ?_
          refine T.ret ?_
          refine TQ.ret (vs := [.int .i64 0]) (L' := [row 70 p [.slice (some ⟨b, 0, none⟩) bs.length bs.length, u138], row 5 b (bs.map byteV), sl 110 2 u138 _ _]) rfl ⟨rfl, rfl⟩ ?_ (by (refine Ent.imp ?_; repeat first | exact Imp.refl _ | exact Imp.nil _ | (apply Imp.pull; focus ((repeat first | exact Del.head _ _ | apply Del.tail); done)) | (apply Imp.row; focus ((repeat first | exact Del.head _ _ | apply Del.tail); done)) | apply Imp.drop))
          exact ⟨u138, _, _, rfl, hss, hpre, hpost, by rw [← hI]; rw [mergeP_snoc, if_pos hc3]⟩
        · refine T.skip ?_
          refine TQ.nn ?_
          refine T.seq ?_
          refine T.reg ?_
          refine TO.p (DP.as (by conv => lhs; whnf)) ?_
          refine TO.nil ?_
          refine TQ.nn ?_
          refine T.ret ?_
          refine TQ.ret (vs := [.int .i64 0]) (L' := [row 70 p [.slice (some ⟨b, 0, none⟩) bs.length bs.length, v2], row 5 b (bs.map byteV), sl 110 2 v2 _ _]) rfl ⟨rfl, rfl⟩ ?_ (by (refine Ent.imp ?_; repeat first | exact Imp.refl _ | exact Imp.nil _ | (apply Imp.pull; focus ((repeat first | exact Del.head _ _ | apply Del.tail); done)) | (apply Imp.row; focus ((repeat first | exact Del.head _ _ | apply Del.tail); done)) | apply Imp.drop))
          exact ⟨v2, _, _, rfl, hss, hpre, hpost, by rw [← hI]; rw [mergeP_snoc, if_neg hc3]⟩
      · obtain rfl : pre = [] := List.eq_nil_of_length_eq_zero (by omega)
        refine TR.off 3 rfl (by kernel_rfl) rfl rfl ?_
        refine TR.off 4 rfl (by kernel_rfl) rfl rfl ?_
        refine TR.off 5 rfl (by kernel_rfl) rfl rfl ?_
        refine TR.off 6 rfl (by kernel_rfl) rfl rfl ?_
        refine TR.off 7 rfl (by kernel_rfl) rfl rfl ?_
        refine TR.off 8 rfl (by kernel_rfl) rfl rfl ?_
        refine TR.off 9 rfl (by kernel_rfl) rfl rfl ?_
        refine TR.off 10 rfl (by kernel_rfl) rfl rfl ?_
        refine TR.off 11 rfl (by kernel_rfl) rfl rfl ?_
        refine TR.off 12 rfl (by kernel_rfl) rfl rfl ?_
        refine TR.off 13 rfl (by kernel_rfl) rfl rfl ?_
        refine TR.off 14 rfl (by kernel_rfl) rfl rfl ?_
        refine TR.off 15 rfl (by kernel_rfl) rfl rfl ?_
        refine TR.p 16 rfl (by kernel_rfl) (DP.pkF rfl (by conv => lhs; whnf)) ?_
        refine TR.done (by kernel_rfl) ?_
        refine TQ.nn ?_
        refine T.condF rfl ?_
        refine T.skip ?_
        refine TQ.nn ?_
        refine T.seq ?_
        refine T.reg ?_
        refine TO.p (DP.as (by conv => lhs; whnf)) ?_
        refine TO.nil ?_
        refine TQ.nn ?_
        refine T.ret ?_
        refine TQ.ret (vs := [.int .i64 0]) (L' := [row 70 p [.slice (some ⟨b, 0, none⟩) bs.length bs.length, v2], row 5 b (bs.map byteV), sl 110 2 v2 _ _]) rfl ⟨rfl, rfl⟩ ?_ (by (refine Ent.imp ?_; repeat first | exact Imp.refl _ | exact Imp.nil _ | (apply Imp.pull; focus ((repeat first | exact Del.head _ _ | apply Del.tail); done)) | (apply Imp.row; focus ((repeat first | exact Del.head _ _ | apply Del.tail); done)) | apply Imp.drop))
        exact ⟨v2, _, _, rfl, hss, hpre, hpost, by rw [← hI]; rfl⟩
end Go.Proofs.Ytfgpnipnaaeafaa


namespace Go.Proofs.Ytfgpnipnaaeafaa
open Go Pw
set_option maxRecDepth 20000
set_option maxHeartbeats 4000000
theorem back_bad (p b a l : Nat) (v : Value) (bs : List UInt8) (ss : List Spn) (hbs : bs.length ≤ 1048576) (hlen : ss.length ≤ 1048576) (hb : ∀ s ∈ ss, s.1 + s.2 ≤ 1048576) (ha : a < 4294967296) (hl : l < 4294967296) (h0 : 0 < l) (h : a + l ≤ bs.length) (hs : sharedN ss a l < l) :
    Sat Try.prog 81 [.pointer (some ⟨p, 0, none⟩), .agg #[.int .u32 a, .int .u32 l]] [row 70 p [.slice (some ⟨b, 0, none⟩) bs.length bs.length, v], row 5 b (bs.map byteV), sl 110 2 v ss.length (spans ss)] (fun u L' => u = .int .i64 12 ∧ L' = [row 70 p [.slice (some ⟨b, 0, none⟩) bs.length bs.length, v], row 5 b (bs.map byteV), sl 110 2 v ss.length (spans ss)]) := by
  refine Sat.enter Try.func81 rfl Try.ntmps81 rfl (fun c R => ?_)
  try simp only [List.cons_append, List.nil_append]
  refine T.seq ?_
  refine T.reg ?_
  refine TO.n (N.bxA rfl) ?_
  rintro _ _ ⟨b3, rfl, rfl⟩
  refine TO.p (DP.as (by conv => lhs; whnf)) ?_
  refine TO.nil ?_
  refine TQ.nn ?_
  refine T.seq ?_
  refine T.seq ?_
  refine T.reg ?_
  refine TO.p (DP.mv (by conv => lhs; whnf)) ?_
  refine TO.d (D.ldRA rfl ag110 sz110 (by (repeat first | exact LMem.head _ _ | apply LMem.tail)) (by rfl)) ?_
  refine TO.n (N.callF (span_ok p bs.length b a l v hbs ha hl h0 h) Try.call61 ⟨rfl, rfl, trivial⟩ (by (repeat first | exact Pick.nil _ | (apply Pick.cons; focus ((repeat first | exact Del.head _ _ | apply Del.tail); done))))) ?_
  rintro u11 _ ⟨_, ⟨rfl, rfl⟩, rfl⟩
  try simp only [List.cons_append, List.nil_append]
  refine TO.p (DP.as (by conv => lhs; whnf)) ?_
  refine TO.nil ?_
  refine TQ.nn ?_
  refine T.seq ?_
  refine T.reg ?_
  refine TO.p (DP.mv (by conv => lhs; whnf)) ?_
  refine TO.p (DP.neq (a := 0) (b := 0) rfl rfl) ?_
  refine TO.nil ?_
  refine TQ.nn ?_
  refine T.condD rfl (fun hc0 => ?_) (fun hc0 => ?_)
  · exact absurd rfl hc0
  · refine T.skip ?_
    refine TQ.nn ?_
    refine T.seq ?_
    refine T.seq ?_
    refine T.drawL [] mixed (by repeat first | exact Calm.rt | apply Calm.t | apply Calm.b | apply Calm.l | apply Calm.ct) ?_
    refine TR.p 0 rfl (by kernel_rfl) (DP.mv (by conv => lhs; whnf)) ?_
    refine TR.d 1 rfl (by kernel_rfl) (by kernel_rfl) (by (refine Ent.imp ?_; repeat first | exact Imp.refl _ | exact Imp.nil _ | (apply Imp.pull; focus ((repeat first | exact Del.head _ _ | apply Del.tail); done)) | (apply Imp.row; focus ((repeat first | exact Del.head _ _ | apply Del.tail); done)) | apply Imp.drop)) (D.ldRA rfl ag110 sz110 (by (repeat first | exact LMem.head _ _ | apply LMem.tail)) (by rfl)) ?_
    refine TR.p 3 rfl (by kernel_rfl) (DP.fa 1 rfl Try.underlying110 rfl rfl sz30) ?_
    refine TR.d 4 rfl (by kernel_rfl) (by kernel_rfl) (by (refine Ent.imp ?_; repeat first | exact Imp.refl _ | exact Imp.nil _ | (apply Imp.pull; focus ((repeat first | exact Del.head _ _ | apply Del.tail); done)) | (apply Imp.row; focus ((repeat first | exact Del.head _ _ | apply Del.tail); done)) | apply Imp.drop)) (D.ldR rfl pl30 (by (repeat first | exact LMem.head _ _ | apply LMem.tail)) (by rfl)) ?_
    refine TR.p 5 rfl (by kernel_rfl) (DP.cv rfl is30 Try.underlying63 (l := 18446744073709551616) rfl (by omega)) ?_
    refine TR.n 2 (by kernel_rfl) rfl (N.callF (shared_spec p a l _ v ss hlen hb ha hl) Try.call47 ⟨rfl, rfl, trivial⟩ (by (repeat first | exact Pick.nil _ | (apply Pick.cons; focus ((repeat first | exact Del.head _ _ | apply Del.tail); done))))) ?_
    rintro u17 _ ⟨_, ⟨rfl, rfl⟩, rfl⟩
    try simp only [List.cons_append, List.nil_append]
    refine ⟨.inr (by (refine Ent.imp ?_; repeat first | exact Imp.refl _ | exact Imp.nil _ | (apply Imp.pull; focus ((repeat first | exact Del.head _ _ | apply Del.tail); done)) | (apply Imp.row; focus ((repeat first | exact Del.head _ _ | apply Del.tail); done)) | apply Imp.drop)), ?_⟩
    refine TR.p 6 rfl (by kernel_rfl) (DP.lss rfl rfl) ?_
    refine TR.done (by kernel_rfl) ?_
    refine TQ.nn ?_
    refine T.condD rfl (fun hc1 => ?_) (fun hc1 => ?_)
    · refine T.seq ?_
      refine T.reg ?_
      refine TO.p (DP.as (by conv => lhs; whnf)) ?_
      refine TO.nil ?_
      refine TQ.nn ?_
      refine T.ret ?_
      refine TQ.nr ?_
      refine TQ.ret (vs := [.int .i64 12]) (L' := [_, _, _]) rfl ⟨rfl, rfl⟩ ⟨rfl, rfl⟩ (by (refine Ent.imp ?_; repeat first | exact Imp.refl _ | exact Imp.nil _ | (apply Imp.pull; focus ((repeat first | exact Del.head _ _ | apply Del.tail); done)) | (apply Imp.row; focus ((repeat first | exact Del.head _ _ | apply Del.tail); done)) | apply Imp.drop))
    · exact absurd hs (by omega)

theorem back_ok (p b a l : Nat) (v : Value) (bs : List UInt8) (ss : List Spn) (hbs : bs.length ≤ 1048576) (hlen : ss.length ≤ 1048576) (hb : ∀ s ∈ ss, s.1 + s.2 ≤ 1048576) (ha : a < 4294967296) (hl : l < 4294967296) (h0 : 0 < l) (h : a + l ≤ bs.length) (hs : l ≤ sharedN ss a l) :
    Sat Try.prog 81 [.pointer (some ⟨p, 0, none⟩), .agg #[.int .u32 a, .int .u32 l]] [row 70 p [.slice (some ⟨b, 0, none⟩) bs.length bs.length, v], row 5 b (bs.map byteV), sl 110 2 v ss.length (spans ss)] (fun u L' => ∃ v', u = .int .i64 0 ∧ L' = [row 70 p [.slice (some ⟨b, 0, none⟩) bs.length bs.length, v'], row 5 b (bs.map byteV), sl 110 2 v' (backL a l ss).length (spans (backL a l ss))]) := by
  refine Sat.enter Try.func81 rfl Try.ntmps81 rfl (fun c R => ?_)
  try simp only [List.cons_append, List.nil_append]
  refine T.seq ?_
  refine T.reg ?_
  refine TO.n (N.bxA rfl) ?_
  rintro _ _ ⟨b3, rfl, rfl⟩
  refine TO.p (DP.as (by conv => lhs; whnf)) ?_
  refine TO.nil ?_
  refine TQ.nn ?_
  refine T.seq ?_
  refine T.seq ?_
  refine T.reg ?_
  refine TO.p (DP.mv (by conv => lhs; whnf)) ?_
  refine TO.d (D.ldRA rfl ag110 sz110 (by (repeat first | exact LMem.head _ _ | apply LMem.tail)) (by rfl)) ?_
  refine TO.n (N.callF (span_ok p bs.length b a l v hbs ha hl h0 h) Try.call61 ⟨rfl, rfl, trivial⟩ (by (repeat first | exact Pick.nil _ | (apply Pick.cons; focus ((repeat first | exact Del.head _ _ | apply Del.tail); done))))) ?_
  rintro u11 _ ⟨_, ⟨rfl, rfl⟩, rfl⟩
  try simp only [List.cons_append, List.nil_append]
  refine TO.p (DP.as (by conv => lhs; whnf)) ?_
  refine TO.nil ?_
  refine TQ.nn ?_
  refine T.seq ?_
  refine T.reg ?_
  refine TO.p (DP.mv (by conv => lhs; whnf)) ?_
  refine TO.p (DP.neq (a := 0) (b := 0) rfl rfl) ?_
  refine TO.nil ?_
  refine TQ.nn ?_
  refine T.condD rfl (fun hc0 => ?_) (fun hc0 => ?_)
  · exact absurd rfl hc0
  · refine T.skip ?_
    refine TQ.nn ?_
    refine T.seq ?_
    refine T.seq ?_
    refine T.drawL [] mixed (by repeat first | exact Calm.rt | apply Calm.t | apply Calm.b | apply Calm.l | apply Calm.ct) ?_
    refine TR.p 0 rfl (by kernel_rfl) (DP.mv (by conv => lhs; whnf)) ?_
    refine TR.d 1 rfl (by kernel_rfl) (by kernel_rfl) (by (refine Ent.imp ?_; repeat first | exact Imp.refl _ | exact Imp.nil _ | (apply Imp.pull; focus ((repeat first | exact Del.head _ _ | apply Del.tail); done)) | (apply Imp.row; focus ((repeat first | exact Del.head _ _ | apply Del.tail); done)) | apply Imp.drop)) (D.ldRA rfl ag110 sz110 (by (repeat first | exact LMem.head _ _ | apply LMem.tail)) (by rfl)) ?_
    refine TR.p 3 rfl (by kernel_rfl) (DP.fa 1 rfl Try.underlying110 rfl rfl sz30) ?_
    refine TR.d 4 rfl (by kernel_rfl) (by kernel_rfl) (by (refine Ent.imp ?_; repeat first | exact Imp.refl _ | exact Imp.nil _ | (apply Imp.pull; focus ((repeat first | exact Del.head _ _ | apply Del.tail); done)) | (apply Imp.row; focus ((repeat first | exact Del.head _ _ | apply Del.tail); done)) | apply Imp.drop)) (D.ldR rfl pl30 (by (repeat first | exact LMem.head _ _ | apply LMem.tail)) (by rfl)) ?_
    refine TR.p 5 rfl (by kernel_rfl) (DP.cv rfl is30 Try.underlying63 (l := 18446744073709551616) rfl (by omega)) ?_
    refine TR.n 2 (by kernel_rfl) rfl (N.callF (shared_spec p a l _ v ss hlen hb ha hl) Try.call47 ⟨rfl, rfl, trivial⟩ (by (repeat first | exact Pick.nil _ | (apply Pick.cons; focus ((repeat first | exact Del.head _ _ | apply Del.tail); done))))) ?_
    rintro u17 _ ⟨_, ⟨rfl, rfl⟩, rfl⟩
    try simp only [List.cons_append, List.nil_append]
    refine ⟨.inr (by (refine Ent.imp ?_; repeat first | exact Imp.refl _ | exact Imp.nil _ | (apply Imp.pull; focus ((repeat first | exact Del.head _ _ | apply Del.tail); done)) | (apply Imp.row; focus ((repeat first | exact Del.head _ _ | apply Del.tail); done)) | apply Imp.drop)), ?_⟩
    refine TR.p 6 rfl (by kernel_rfl) (DP.lss rfl rfl) ?_
    refine TR.done (by kernel_rfl) ?_
    refine TQ.nn ?_
    refine T.condD rfl (fun hc1 => ?_) (fun hc1 => ?_)
    · exact absurd hc1 (by omega)
    · refine T.skip ?_
      refine TQ.nn ?_
      refine T.seq ?_
      refine T.reg ?_
      refine TO.p (DP.as (by conv => lhs; whnf)) ?_
      refine TO.nil ?_
      refine TQ.nn ?_
      refine T.seq ?_
      refine T.seq ?_
      refine T.reg ?_
      refine TO.p (DP.mv (by conv => lhs; whnf)) ?_
      refine TO.p (DP.nck rfl) ?_
      refine TO.p (DP.fa 1 rfl Try.underlying70 rfl rfl sz68) ?_
      refine TO.d (D.ldR rfl pl68 (by (repeat first | exact LMem.head _ _ | apply LMem.tail)) (by rfl)) ?_
      refine TO.d (D.lenO (by conv => lhs; whnf) Try.underlying68 (by (repeat first | exact LMem.head _ _ | apply LMem.tail))) ?_
      refine TO.p (DP.mv (by conv => lhs; whnf)) ?_
      refine TO.nil ?_
      refine TQ.nn ?_
      refine T.block ?_
      refine T.loop (S := Nat × Value) (0, .slice none 0 0) (fun ⟨i, v6⟩ => [(0, .pointer (some ⟨p, 0, none⟩)), (3, .pointer (some ⟨b3, 0, none⟩)), (6, v6), (25, v), (26, .int .i64 (ss.length : Nat)), (27, .int .i64 (i : Nat))]) (fun ⟨i, v6⟩ => sl 110 2 v6 (backL a l (ss.take i)).length (spans (backL a l (ss.take i))) :: row 110 b3 [.int .u32 a, .int .u32 l] :: row 70 p [.slice (some ⟨b, 0, none⟩) bs.length bs.length, v] :: row 5 b (bs.map byteV) :: sl 110 2 v ss.length (spans ss) :: R) (fun ⟨i, v6⟩ => i ≤ ss.length) (fun ⟨i, v6⟩ => ss.length - i) ?_ ?_ ?_ ?_
      · (repeat first | exact trivial | refine ⟨rfl, ?_⟩)
      · exact Nat.zero_le _
      · (refine Ent.trans (Ent.nil (e := 110) (sz := 2)) ?_; (refine Ent.imp ?_; repeat first | exact Imp.refl _ | exact Imp.nil _ | (apply Imp.pull; focus ((repeat first | exact Del.head _ _ | apply Del.tail); done)) | (apply Imp.row; focus ((repeat first | exact Del.head _ _ | apply Del.tail); done)) | apply Imp.drop))
      rintro ⟨i, v6⟩ g hI
      try dsimp only
      refine T.seq ?_
      refine T.reg ?_
      refine TO.p (DP.lss rfl rfl) ?_
      refine TO.nil ?_
      refine TQ.nn ?_
      refine T.seq ?_
      refine T.condD rfl (fun hc2 => ?_) (fun hc2 => ?_)
      · obtain ⟨s, hs1⟩ := get_some hc2
        have hsb := hb s (mem_of_get hs1)
        have hus := flat_elem spv_len hs1
        have hbl := backL_len a l (ss.take i)
        have htl : (ss.take i).length = i := by rw [List.length_take]; omega
        have hbs1 := backL_succ hs1 a l
        unfold backOne at hbs1
        refine T.skip ?_
        refine TQ.nn ?_
        refine T.seq ?_
        refine T.block ?_
        refine T.seq ?_
        refine T.reg ?_
        refine TO.d (D.iasO (by conv => lhs; whnf) rfl Try.underlying68 sz110 (by (repeat first | exact LMem.head _ _ | apply LMem.tail)) (by omega)) ?_
        refine TO.d (D.ldOA (us := [.int .u32 s.1, .int .u32 s.2]) (by conv => lhs; whnf) ag110 sz110 (by (repeat first | exact LMem.head _ _ | apply LMem.tail)) (by omega) hus rfl) ?_
        refine TO.n (N.alA zr110) ?_
        rintro _ _ ⟨b8, rfl, rfl⟩
        refine TO.n0 (N.stA rfl rfl sz110 (by (repeat first | exact Put.head _ _ _ | apply Put.tail)) (by (simp [setAll])) (by (simp [Value.oneCell'])) (by rfl)) ?_
        rintro _ _ ⟨rfl, rfl⟩
        refine TO.nil ?_
        refine TQ.nn ?_
        refine T.seq ?_
        refine T.seq ?_
        refine T.drawL [9] mixed (by repeat first | exact Calm.rt | apply Calm.t | apply Calm.b | apply Calm.l | apply Calm.ct) ?_
        refine TR.p 0 rfl (by kernel_rfl) (DP.fa 0 rfl Try.underlying110 rfl rfl sz30) ?_
        refine TR.d 1 rfl (by kernel_rfl) (by kernel_rfl) (by (refine Ent.imp ?_; repeat first | exact Imp.refl _ | exact Imp.nil _ | (apply Imp.pull; focus ((repeat first | exact Del.head _ _ | apply Del.tail); done)) | (apply Imp.row; focus ((repeat first | exact Del.head _ _ | apply Del.tail); done)) | apply Imp.drop)) (D.ldR rfl pl30 (by (repeat first | exact LMem.head _ _ | apply LMem.tail)) (by rfl)) ?_
        refine TR.p 2 rfl (by kernel_rfl) (DP.fa 0 rfl Try.underlying110 rfl rfl sz30) ?_
        refine TR.d 3 rfl (by kernel_rfl) (by kernel_rfl) (by (refine Ent.imp ?_; repeat first | exact Imp.refl _ | exact Imp.nil _ | (apply Imp.pull; focus ((repeat first | exact Del.head _ _ | apply Del.tail); done)) | (apply Imp.row; focus ((repeat first | exact Del.head _ _ | apply Del.tail); done)) | apply Imp.drop)) (D.ldR rfl pl30 (by (repeat first | exact LMem.head _ _ | apply LMem.tail)) (by rfl)) ?_
        refine TR.p 4 rfl (by kernel_rfl) (DP.leq rfl rfl) ?_
        refine TR.pB 5 rfl (by kernel_rfl) (DP.mv (by conv => lhs; whnf)) (fun hg36 => ?_) (fun hg36 => ?_)
        · refine TR.don 6 rfl (by kernel_rfl) (by kernel_rfl) (by (refine Ent.imp ?_; repeat first | exact Imp.refl _ | exact Imp.nil _ | (apply Imp.pull; focus ((repeat first | exact Del.head _ _ | apply Del.tail); done)) | (apply Imp.row; focus ((repeat first | exact Del.head _ _ | apply Del.tail); done)) | apply Imp.drop)) rfl (D.ldRA rfl ag110 sz110 (by (repeat first | exact LMem.head _ _ | apply LMem.tail)) (by rfl)) ?_
          refine TR.don 8 rfl (by kernel_rfl) (by kernel_rfl) (by (refine Ent.imp ?_; repeat first | exact Imp.refl _ | exact Imp.nil _ | (apply Imp.pull; focus ((repeat first | exact Del.head _ _ | apply Del.tail); done)) | (apply Imp.row; focus ((repeat first | exact Del.head _ _ | apply Del.tail); done)) | apply Imp.drop)) rfl (D.ldRA rfl ag110 sz110 (by (repeat first | exact LMem.head _ _ | apply LMem.tail)) (by rfl)) ?_
          refine TR.non 7 (by kernel_rfl) rfl rfl (N.callF (end_spec a l ha hl) Try.call65 ⟨rfl, trivial⟩ (by (repeat first | exact Pick.nil _ | (apply Pick.cons; focus ((repeat first | exact Del.head _ _ | apply Del.tail); done))))) ?_
          rintro u38 _ ⟨_, ⟨rfl, rfl⟩, rfl⟩
          try simp only [List.cons_append, List.nil_append]
          refine ⟨.inr (by (refine Ent.imp ?_; repeat first | exact Imp.refl _ | exact Imp.nil _ | (apply Imp.pull; focus ((repeat first | exact Del.head _ _ | apply Del.tail); done)) | (apply Imp.row; focus ((repeat first | exact Del.head _ _ | apply Del.tail); done)) | apply Imp.drop)), ?_⟩
          refine TR.non 9 (by kernel_rfl) rfl rfl (N.callF (end_spec s.1 s.2 (by omega) (by omega)) Try.call65 ⟨rfl, trivial⟩ (by (repeat first | exact Pick.nil _ | (apply Pick.cons; focus ((repeat first | exact Del.head _ _ | apply Del.tail); done))))) ?_
          rintro u40 _ ⟨_, ⟨rfl, rfl⟩, rfl⟩
          try simp only [List.cons_append, List.nil_append]
          refine ⟨.inl rfl, ?_⟩
          refine TR.pon 10 rfl (by kernel_rfl) rfl (DP.leq rfl rfl) ?_
          refine TR.p 11 rfl (by kernel_rfl) (DP.pkT rfl (by conv => lhs; whnf)) ?_
          refine TR.done (by kernel_rfl) ?_
          refine TQ.nn ?_
          refine T.condD rfl (fun hc3 => ?_) (fun hc3 => ?_)
          · refine T.cut (S := Value × List Spn) (fun ⟨v7, acc⟩ => [(0, .pointer (some ⟨p, 0, none⟩)), (3, .pointer (some ⟨b3, 0, none⟩)), (6, v7), (8, .pointer (some ⟨b8, 0, none⟩)), (25, v), (26, .int .i64 (ss.length : Nat)), (27, .int .i64 (i : Nat))]) (fun ⟨v7, acc⟩ => sl 110 2 v7 acc.length (spans acc) :: row 110 b8 [.int .u32 s.1, .int .u32 s.2] :: row 110 b3 [.int .u32 a, .int .u32 l] :: row 70 p [.slice (some ⟨b, 0, none⟩) bs.length bs.length, v] :: row 5 b (bs.map byteV) :: sl 110 2 v ss.length (spans ss) :: R) (fun ⟨v7, acc⟩ => acc = backL a l (ss.take i) ++ (if s.1 < a then [(s.1, a - s.1)] else [])) ?_ ?_
            · refine T.seq ?_
              refine T.reg ?_
              refine TO.p (DP.fa 0 rfl Try.underlying110 rfl rfl sz30) ?_
              refine TO.d (D.ldR rfl pl30 (by (repeat first | exact LMem.head _ _ | apply LMem.tail)) (by rfl)) ?_
              refine TO.p (DP.fa 0 rfl Try.underlying110 rfl rfl sz30) ?_
              refine TO.d (D.ldR rfl pl30 (by (repeat first | exact LMem.head _ _ | apply LMem.tail)) (by rfl)) ?_
              refine TO.p (DP.lss rfl rfl) ?_
              refine TO.nil ?_
              refine TQ.nn ?_
              refine T.condD rfl (fun hc4 => ?_) (fun hc4 => ?_)
              · refine T.reg ?_
                refine TO.p (DP.mv (by conv => lhs; whnf)) ?_
                refine TO.p (DP.fa 0 rfl Try.underlying110 rfl rfl sz30) ?_
                refine TO.d (D.ldR rfl pl30 (by (repeat first | exact LMem.head _ _ | apply LMem.tail)) (by rfl)) ?_
                refine TO.p (DP.fa 0 rfl Try.underlying110 rfl rfl sz30) ?_
                refine TO.d (D.ldR rfl pl30 (by (repeat first | exact LMem.head _ _ | apply LMem.tail)) (by rfl)) ?_
                refine TO.p (DP.fa 0 rfl Try.underlying110 rfl rfl sz30) ?_
                refine TO.d (D.ldR rfl pl30 (by (repeat first | exact LMem.head _ _ | apply LMem.tail)) (by rfl)) ?_
                refine TO.p (DP.sub rfl rfl (l := 4294967296) rfl (by omega) (by omega)) ?_
                refine TO.p (DP.bdL (vs := [(0, _), (1, _)]) (us := [_, _]) ⟨rfl, (by conv => lhs; whnf), rfl, (by conv => lhs; whnf), trivial⟩ pc110 zr110 rfl) ?_
                refine TO.n (N.bsL (len := 1) (vs := [(0, _)]) (us := [_, _]) ⟨rfl, (by conv => lhs; whnf), trivial⟩ Try.underlying68 sz110 zr110 rfl (by omega) rfl) ?_
                rintro _ _ ⟨b57, rfl, rfl⟩
                refine TO.n (N.app rfl rfl Try.underlying68 sz110 by110 zr110 rfl rfl (by (repeat first | exact Del.head _ _ | apply Del.tail)) (Src.sl (news := [.int .u32 ((s.1 : Nat) : Int), .int .u32 ((a - s.1 : Nat) : Int)]) Try.underlying68 rfl (by (repeat first | exact LMem.head _ _ | apply LMem.tail)) (ReadsN.cells (fun i v hv => by simpa using hv))) (by intro u hu; simp at hu; rcases hu with rfl | rfl <;> rfl) (by omega)) ?_
                rintro u58 _ rfl
                rw [spans_snoc, ← len_snoc (backL a l (ss.take i)) (s.1) (a - s.1)]
                refine TO.p (DP.as (by conv => lhs; whnf)) ?_
                refine TO.nil ?_
                refine TQ.cn ⟨u58, backL a l (ss.take i) ++ [(s.1, a - s.1)]⟩ rfl ?_ ?_ ?_
                · (repeat first | exact trivial | refine ⟨rfl, ?_⟩)
                · dsimp only; rw [if_pos hc4]
                · (refine Ent.imp ?_; repeat first | exact Imp.refl _ | exact Imp.nil _ | (apply Imp.pull; focus ((repeat first | exact Del.head _ _ | apply Del.tail); done)) | (apply Imp.row; focus ((repeat first | exact Del.head _ _ | apply Del.tail); done)) | apply Imp.drop)
              · refine T.skip ?_
                refine TQ.cn ⟨v6, backL a l (ss.take i)⟩ rfl ?_ ?_ ?_
                · (repeat first | exact trivial | refine ⟨rfl, ?_⟩)
                · dsimp only; rw [if_neg hc4]; simp
                · (refine Ent.imp ?_; repeat first | exact Imp.refl _ | exact Imp.nil _ | (apply Imp.pull; focus ((repeat first | exact Del.head _ _ | apply Del.tail); done)) | (apply Imp.row; focus ((repeat first | exact Del.head _ _ | apply Del.tail); done)) | apply Imp.drop)
            rintro ⟨v7, acc⟩ g hacc
            try dsimp only
            refine T.seq ?_
            refine T.seq ?_
            have hal : acc.length ≤ 2 * i + 1 := by rw [hacc, List.length_append]; split <;> simp only [List.length_cons, List.length_nil] <;> omega
            refine T.drawL [3] mixed (by repeat first | exact Calm.rt | apply Calm.t | apply Calm.b | apply Calm.l | apply Calm.ct) ?_
            refine TR.d 0 rfl (by kernel_rfl) (by kernel_rfl) (by (refine Ent.imp ?_; repeat first | exact Imp.refl _ | exact Imp.nil _ | (apply Imp.pull; focus ((repeat first | exact Del.head _ _ | apply Del.tail); done)) | (apply Imp.row; focus ((repeat first | exact Del.head _ _ | apply Del.tail); done)) | apply Imp.drop)) (D.ldRA rfl ag110 sz110 (by (repeat first | exact LMem.head _ _ | apply LMem.tail)) (by rfl)) ?_
            refine TR.d 2 rfl (by kernel_rfl) (by kernel_rfl) (by (refine Ent.imp ?_; repeat first | exact Imp.refl _ | exact Imp.nil _ | (apply Imp.pull; focus ((repeat first | exact Del.head _ _ | apply Del.tail); done)) | (apply Imp.row; focus ((repeat first | exact Del.head _ _ | apply Del.tail); done)) | apply Imp.drop)) (D.ldRA rfl ag110 sz110 (by (repeat first | exact LMem.head _ _ | apply LMem.tail)) (by rfl)) ?_
            refine TR.n 1 (by kernel_rfl) rfl (N.callF (end_spec a l ha hl) Try.call65 ⟨rfl, trivial⟩ (by (repeat first | exact Pick.nil _ | (apply Pick.cons; focus ((repeat first | exact Del.head _ _ | apply Del.tail); done))))) ?_
            rintro u60 _ ⟨_, ⟨rfl, rfl⟩, rfl⟩
            try simp only [List.cons_append, List.nil_append]
            refine ⟨.inr (by (refine Ent.imp ?_; repeat first | exact Imp.refl _ | exact Imp.nil _ | (apply Imp.pull; focus ((repeat first | exact Del.head _ _ | apply Del.tail); done)) | (apply Imp.row; focus ((repeat first | exact Del.head _ _ | apply Del.tail); done)) | apply Imp.drop)), ?_⟩
            refine TR.n 3 (by kernel_rfl) rfl (N.callF (end_spec s.1 s.2 (by omega) (by omega)) Try.call65 ⟨rfl, trivial⟩ (by (repeat first | exact Pick.nil _ | (apply Pick.cons; focus ((repeat first | exact Del.head _ _ | apply Del.tail); done))))) ?_
            rintro u62 _ ⟨_, ⟨rfl, rfl⟩, rfl⟩
            try simp only [List.cons_append, List.nil_append]
            refine ⟨.inl rfl, ?_⟩
            refine TR.p 4 rfl (by kernel_rfl) (DP.lss rfl rfl) ?_
            refine TR.done (by kernel_rfl) ?_
            refine TQ.nn ?_
            refine T.condD rfl (fun hc5 => ?_) (fun hc5 => ?_)
            · refine T.drawL [7, 11, 12] mixed (by repeat first | exact Calm.rt | apply Calm.t | apply Calm.b | apply Calm.l | apply Calm.ct) ?_
              refine TR.p 0 rfl (by kernel_rfl) (DP.mv (by conv => lhs; whnf)) ?_
              refine TR.d 1 rfl (by kernel_rfl) (by kernel_rfl) (by (refine Ent.imp ?_; repeat first | exact Imp.refl _ | exact Imp.nil _ | (apply Imp.pull; focus ((repeat first | exact Del.head _ _ | apply Del.tail); done)) | (apply Imp.row; focus ((repeat first | exact Del.head _ _ | apply Del.tail); done)) | apply Imp.drop)) (D.ldRA rfl ag110 sz110 (by (repeat first | exact LMem.head _ _ | apply LMem.tail)) (by rfl)) ?_
              refine TR.d 4 rfl (by kernel_rfl) (by kernel_rfl) (by (refine Ent.imp ?_; repeat first | exact Imp.refl _ | exact Imp.nil _ | (apply Imp.pull; focus ((repeat first | exact Del.head _ _ | apply Del.tail); done)) | (apply Imp.row; focus ((repeat first | exact Del.head _ _ | apply Del.tail); done)) | apply Imp.drop)) (D.ldRA rfl ag110 sz110 (by (repeat first | exact LMem.head _ _ | apply LMem.tail)) (by rfl)) ?_
              refine TR.d 6 rfl (by kernel_rfl) (by kernel_rfl) (by (refine Ent.imp ?_; repeat first | exact Imp.refl _ | exact Imp.nil _ | (apply Imp.pull; focus ((repeat first | exact Del.head _ _ | apply Del.tail); done)) | (apply Imp.row; focus ((repeat first | exact Del.head _ _ | apply Del.tail); done)) | apply Imp.drop)) (D.ldRA rfl ag110 sz110 (by (repeat first | exact LMem.head _ _ | apply LMem.tail)) (by rfl)) ?_
              refine TR.n 2 (by kernel_rfl) rfl (N.callF (end_spec a l ha hl) Try.call65 ⟨rfl, trivial⟩ (by (repeat first | exact Pick.nil _ | (apply Pick.cons; focus ((repeat first | exact Del.head _ _ | apply Del.tail); done))))) ?_
              rintro u66 _ ⟨_, ⟨rfl, rfl⟩, rfl⟩
              try simp only [List.cons_append, List.nil_append]
              refine ⟨.inr (by (refine Ent.imp ?_; repeat first | exact Imp.refl _ | exact Imp.nil _ | (apply Imp.pull; focus ((repeat first | exact Del.head _ _ | apply Del.tail); done)) | (apply Imp.row; focus ((repeat first | exact Del.head _ _ | apply Del.tail); done)) | apply Imp.drop)), ?_⟩
              refine TR.p 3 rfl (by kernel_rfl) (DP.cv rfl is63 Try.underlying30 (l := 4294967296) rfl (by omega)) ?_
              refine TR.n 5 (by kernel_rfl) rfl (N.callF (end_spec s.1 s.2 (by omega) (by omega)) Try.call65 ⟨rfl, trivial⟩ (by (repeat first | exact Pick.nil _ | (apply Pick.cons; focus ((repeat first | exact Del.head _ _ | apply Del.tail); done))))) ?_
              rintro u69 _ ⟨_, ⟨rfl, rfl⟩, rfl⟩
              try simp only [List.cons_append, List.nil_append]
              refine ⟨.inr (by (refine Ent.imp ?_; repeat first | exact Imp.refl _ | exact Imp.nil _ | (apply Imp.pull; focus ((repeat first | exact Del.head _ _ | apply Del.tail); done)) | (apply Imp.row; focus ((repeat first | exact Del.head _ _ | apply Del.tail); done)) | apply Imp.drop)), ?_⟩
              refine TR.n 7 (by kernel_rfl) rfl (N.callF (end_spec a l ha hl) Try.call65 ⟨rfl, trivial⟩ (by (repeat first | exact Pick.nil _ | (apply Pick.cons; focus ((repeat first | exact Del.head _ _ | apply Del.tail); done))))) ?_
              rintro u71 _ ⟨_, ⟨rfl, rfl⟩, rfl⟩
              try simp only [List.cons_append, List.nil_append]
              refine ⟨.inl rfl, ?_⟩
              refine TR.p 8 rfl (by kernel_rfl) (DP.sub rfl rfl (l := 18446744073709551616) rfl (by omega) (by omega)) ?_
              refine TR.p 9 rfl (by kernel_rfl) (DP.cv rfl is63 Try.underlying30 (l := 4294967296) rfl (by omega)) ?_
              refine TR.p 10 rfl (by kernel_rfl) (DP.bdL (vs := [(0, _), (1, _)]) (us := [_, _]) ⟨rfl, (by conv => lhs; whnf), rfl, (by conv => lhs; whnf), trivial⟩ pc110 zr110 rfl) ?_
              refine TR.n 11 (by kernel_rfl) rfl (N.bsL (len := 1) (vs := [(0, _)]) (us := [_, _]) ⟨rfl, (by conv => lhs; whnf), trivial⟩ Try.underlying68 sz110 zr110 rfl (by omega) rfl) ?_
              rintro _ _ ⟨b75, rfl, rfl⟩
              refine ⟨.inl rfl, ?_⟩
              refine TR.n 12 (by kernel_rfl) rfl (N.app rfl rfl Try.underlying68 sz110 by110 zr110 rfl rfl (by (repeat first | exact Del.head _ _ | apply Del.tail)) (Src.sl (news := [.int .u32 ((a + l : Nat) : Int), .int .u32 ((s.1 + s.2 - (a + l) : Nat) : Int)]) Try.underlying68 rfl (by (repeat first | exact LMem.head _ _ | apply LMem.tail)) (ReadsN.cells (fun i v hv => by simpa using hv))) (by intro u hu; simp at hu; rcases hu with rfl | rfl <;> rfl) (by omega)) ?_
              rintro u76 _ rfl
              rw [spans_snoc, ← len_snoc (acc) (a + l) (s.1 + s.2 - (a + l))]
              refine ⟨.inl rfl, ?_⟩
              refine TR.p 13 rfl (by kernel_rfl) (DP.as (by conv => lhs; whnf)) ?_
              refine TR.done (by kernel_rfl) ?_
              refine TQ.nn ?_
              refine T.exit ?_
              refine TQ.ne ?_
              refine TQ.be ?_
              refine TQ.nn ?_
              have hnx : backL a l (ss.take (i + 1)) = acc ++ [(a + l, s.1 + s.2 - (a + l))] := by rw [hbs1, if_pos ⟨hg36, hc3⟩, if_pos hc5, hacc, List.append_assoc]
              refine T.reg ?_
              refine TO.p (DP.add (b := 1) rfl rfl (l := 9223372036854775808) rfl (by omega)) ?_
              refine TO.p (DP.mv (by conv => lhs; whnf)) ?_
              refine TO.nil ?_
              refine TQ.round (i + 1, u76) rfl ?_ ?_ ?_ ?_
              · (repeat first | exact trivial | refine ⟨rfl, ?_⟩)
              · (dsimp only; omega)
              · (dsimp only; omega)
              · (dsimp only; rw [hnx]; (refine Ent.imp ?_; repeat first | exact Imp.refl _ | exact Imp.nil _ | (apply Imp.pull; focus ((repeat first | exact Del.head _ _ | apply Del.tail); done)) | (apply Imp.row; focus ((repeat first | exact Del.head _ _ | apply Del.tail); done)) | apply Imp.drop))
            · refine T.skip ?_
              refine TQ.nn ?_
              refine T.exit ?_
              refine TQ.ne ?_
              refine TQ.be ?_
              refine TQ.nn ?_
              have hnx : backL a l (ss.take (i + 1)) = acc := by rw [hbs1, if_pos ⟨hg36, hc3⟩, if_neg hc5, hacc, List.append_nil]
              refine T.reg ?_
              refine TO.p (DP.add (b := 1) rfl rfl (l := 9223372036854775808) rfl (by omega)) ?_
              refine TO.p (DP.mv (by conv => lhs; whnf)) ?_
              refine TO.nil ?_
              refine TQ.round (i + 1, v7) rfl ?_ ?_ ?_ ?_
              · (repeat first | exact trivial | refine ⟨rfl, ?_⟩)
              · (dsimp only; omega)
              · (dsimp only; omega)
              · (dsimp only; rw [hnx]; (refine Ent.imp ?_; repeat first | exact Imp.refl _ | exact Imp.nil _ | (apply Imp.pull; focus ((repeat first | exact Del.head _ _ | apply Del.tail); done)) | (apply Imp.row; focus ((repeat first | exact Del.head _ _ | apply Del.tail); done)) | apply Imp.drop))
          · refine T.skip ?_
            refine TQ.nn ?_
            refine T.reg ?_
            refine TO.p (DP.mv (by conv => lhs; whnf)) ?_
            refine TO.d (D.ldRA rfl ag110 sz110 (by (repeat first | exact LMem.head _ _ | apply LMem.tail)) (by rfl)) ?_
            refine TO.n (N.bsL (len := 1) (vs := [(0, _)]) (us := [_, _]) ⟨rfl, (by conv => lhs; whnf), trivial⟩ Try.underlying68 sz110 zr110 rfl (by omega) rfl) ?_
            rintro _ _ ⟨b79, rfl, rfl⟩
            refine TO.n (N.app rfl rfl Try.underlying68 sz110 by110 zr110 rfl rfl (by (repeat first | exact Del.head _ _ | apply Del.tail)) (Src.sl (news := [.int .u32 ((s.1 : Nat) : Int), .int .u32 ((s.2 : Nat) : Int)]) Try.underlying68 rfl (by (repeat first | exact LMem.head _ _ | apply LMem.tail)) (ReadsN.cells (fun i v hv => by simpa using hv))) (by intro u hu; simp at hu; rcases hu with rfl | rfl <;> rfl) (by omega)) ?_
            rintro u80 _ rfl
            rw [spans_snoc, ← len_snoc (backL a l (ss.take i)) (s.1) (s.2)]
            refine TO.p (DP.as (by conv => lhs; whnf)) ?_
            refine TO.nil ?_
            refine TQ.bn ?_
            refine TQ.nn ?_
            have hnx : backL a l (ss.take (i + 1)) = backL a l (ss.take i) ++ [(s.1, s.2)] := by rw [hbs1, if_neg (by intro hh; first | exact hg36 hh.1 | exact hc3 hh.2)]
            refine T.reg ?_
            refine TO.p (DP.add (b := 1) rfl rfl (l := 9223372036854775808) rfl (by omega)) ?_
            refine TO.p (DP.mv (by conv => lhs; whnf)) ?_
            refine TO.nil ?_
            refine TQ.round (i + 1, u80) rfl ?_ ?_ ?_ ?_
            · (repeat first | exact trivial | refine ⟨rfl, ?_⟩)
            · (dsimp only; omega)
            · (dsimp only; omega)
            · (dsimp only; rw [hnx]; (refine Ent.imp ?_; repeat first | exact Imp.refl _ | exact Imp.nil _ | (apply Imp.pull; focus ((repeat first | exact Del.head _ _ | apply Del.tail); done)) | (apply Imp.row; focus ((repeat first | exact Del.head _ _ | apply Del.tail); done)) | apply Imp.drop))
        · refine TR.off 6 rfl (by kernel_rfl) rfl rfl ?_
          refine TR.off 7 rfl (by kernel_rfl) rfl rfl ?_
          refine TR.off 8 rfl (by kernel_rfl) rfl rfl ?_
          refine TR.off 9 rfl (by kernel_rfl) rfl rfl ?_
          refine TR.off 10 rfl (by kernel_rfl) rfl rfl ?_
          refine TR.p 11 rfl (by kernel_rfl) (DP.pkF rfl (by conv => lhs; whnf)) ?_
          refine TR.done (by kernel_rfl) ?_
          refine TQ.nn ?_
          refine T.condF rfl ?_
          refine T.skip ?_
          refine TQ.nn ?_
          refine T.reg ?_
          refine TO.p (DP.mv (by conv => lhs; whnf)) ?_
          refine TO.d (D.ldRA rfl ag110 sz110 (by (repeat first | exact LMem.head _ _ | apply LMem.tail)) (by rfl)) ?_
          refine TO.n (N.bsL (len := 1) (vs := [(0, _)]) (us := [_, _]) ⟨rfl, (by conv => lhs; whnf), trivial⟩ Try.underlying68 sz110 zr110 rfl (by omega) rfl) ?_
          rintro _ _ ⟨b79, rfl, rfl⟩
          refine TO.n (N.app rfl rfl Try.underlying68 sz110 by110 zr110 rfl rfl (by (repeat first | exact Del.head _ _ | apply Del.tail)) (Src.sl (news := [.int .u32 ((s.1 : Nat) : Int), .int .u32 ((s.2 : Nat) : Int)]) Try.underlying68 rfl (by (repeat first | exact LMem.head _ _ | apply LMem.tail)) (ReadsN.cells (fun i v hv => by simpa using hv))) (by intro u hu; simp at hu; rcases hu with rfl | rfl <;> rfl) (by omega)) ?_
          rintro u80 _ rfl
          rw [spans_snoc, ← len_snoc (backL a l (ss.take i)) (s.1) (s.2)]
          refine TO.p (DP.as (by conv => lhs; whnf)) ?_
          refine TO.nil ?_
          refine TQ.bn ?_
          refine TQ.nn ?_
          have hnx : backL a l (ss.take (i + 1)) = backL a l (ss.take i) ++ [(s.1, s.2)] := by rw [hbs1, if_neg (by intro hh; first | exact hg36 hh.1 | exact hc3 hh.2)]
          refine T.reg ?_
          refine TO.p (DP.add (b := 1) rfl rfl (l := 9223372036854775808) rfl (by omega)) ?_
          refine TO.p (DP.mv (by conv => lhs; whnf)) ?_
          refine TO.nil ?_
          refine TQ.round (i + 1, u80) rfl ?_ ?_ ?_ ?_
          · (repeat first | exact trivial | refine ⟨rfl, ?_⟩)
          · (dsimp only; omega)
          · (dsimp only; omega)
          · (dsimp only; rw [hnx]; (refine Ent.imp ?_; repeat first | exact Imp.refl _ | exact Imp.nil _ | (apply Imp.pull; focus ((repeat first | exact Del.head _ _ | apply Del.tail); done)) | (apply Imp.row; focus ((repeat first | exact Del.head _ _ | apply Del.tail); done)) | apply Imp.drop))
      · obtain rfl : i = ss.length := by omega
        refine T.exit ?_
        refine TQ.ne ?_
        refine TQ.le ?_
        refine TQ.be ?_
        refine TQ.nn ?_
        refine T.seq ?_
        rw [List.take_length]
        refine T.reg ?_
        refine TO.p (DP.mv (by conv => lhs; whnf)) ?_
        refine TO.p (DP.mv (by conv => lhs; whnf)) ?_
        refine TO.p (DP.nck rfl) ?_
        refine TO.p (DP.fa 1 rfl Try.underlying70 rfl rfl sz68) ?_
        refine TO.n0 (N.stS rfl (by conv => lhs; whnf) sz68 (by (repeat first | exact LMem.head _ _ | apply LMem.tail)) (by (repeat first | exact Put.head _ _ _ | apply Put.tail)) (by simp)) ?_
        rintro _ _ ⟨rfl, rfl⟩
        refine TO.nil ?_
        refine TQ.nn ?_
        refine T.seq ?_
        refine T.reg ?_
        refine TO.p (DP.as (by conv => lhs; whnf)) ?_
        refine TO.nil ?_
        refine TQ.nn ?_
        refine T.ret ?_
        refine TQ.ret (vs := [.int .i64 0]) (L' := [row 70 p [.slice (some ⟨b, 0, none⟩) bs.length bs.length, v6], row 5 b (bs.map byteV), sl 110 2 v6 _ _]) rfl ⟨rfl, rfl⟩ ⟨v6, rfl, rfl⟩ (by (refine Ent.imp ?_; repeat first | exact Imp.refl _ | exact Imp.nil _ | (apply Imp.pull; focus ((repeat first | exact Del.head _ _ | apply Del.tail); done)) | (apply Imp.row; focus ((repeat first | exact Del.head _ _ | apply Del.tail); done)) | apply Imp.drop))
end Go.Proofs.Ytfgpnipnaaeafaa

