/- Lemmas for the proofs of this seat: no statement of the seat is claimed here. -/
import Derived.Test.YtpidkdkbgjnhlaaW6
set_option linter.all false
namespace Go.Proofs.Ytpidkdkbgjnhlaa
open Go Pw
set_option maxRecDepth 20000
set_option maxHeartbeats 4000000
theorem back_bad (p b a l : Nat) (v : Value) (bs : List UInt8) (ss : List Spn) (hbs : bs.length ≤ 1048576) (hlen : ss.length ≤ 1048576) (hb : ∀ s ∈ ss, s.1 + s.2 ≤ 1048576) (ha : a < 4294967296) (hl : l < 4294967296) (h0 : 0 < l) (h : a + l ≤ bs.length) (hs : sharedN ss a l < l) :
    Sat Try.prog 15 [.pointer (some ⟨p, 0, none⟩), .agg #[.int .u32 a, .int .u32 l]] [row 78 p [.slice (some ⟨b, 0, none⟩) bs.length bs.length, v], row 5 b (bs.map byteV), sl 42 2 v ss.length (spans ss)] (fun u L' => u = .int .i64 12 ∧ L' = [row 78 p [.slice (some ⟨b, 0, none⟩) bs.length bs.length, v], row 5 b (bs.map byteV), sl 42 2 v ss.length (spans ss)]) := by
  refine Sat.enter Try.func15 rfl Try.ntmps15 rfl (fun c R => ?_)
  try simp only [List.cons_append, List.nil_append]
  refine T.seq ?_
  refine T.reg ?_
  refine TO.n (N.bxA rfl) ?_
  rintro _ _ ⟨b3, rfl, rfl⟩
  refine TO.p (DP.as (by conv => lhs; whnf)) ?_
  refine TO.nil ?_
  refine TQ.nn ?_
  refine T.seq ?_
  refine T.seq ?_
  refine T.reg ?_
  refine TO.p (DP.mv (by conv => lhs; whnf)) ?_
  refine TO.d (D.ldRA rfl ag42 sz42 (by (repeat first | exact LMem.head _ _ | apply LMem.tail)) (by rfl)) ?_
  refine TO.n (N.callF (span_ok p bs.length b a l v hbs ha hl h0 h) Try.call42 ⟨rfl, rfl, trivial⟩ (by (repeat first | exact Pick.nil _ | (apply Pick.cons; focus ((repeat first | exact Del.head _ _ | apply Del.tail); done))))) ?_
  rintro u11 _ ⟨_, ⟨rfl, rfl⟩, rfl⟩
  try simp only [List.cons_append, List.nil_append]
  refine TO.p (DP.as (by conv => lhs; whnf)) ?_
  refine TO.nil ?_
  refine TQ.nn ?_
  refine T.seq ?_
  refine T.reg ?_
  refine TO.p (DP.mv (by conv => lhs; whnf)) ?_
  refine TO.p (DP.neq (a := 0) (b := 0) rfl rfl) ?_
  refine TO.nil ?_
  refine TQ.nn ?_
  refine T.condD rfl (fun hc0 => ?_) (fun hc0 => ?_)
  · exact absurd rfl hc0
  · refine T.skip ?_
    refine TQ.nn ?_
    refine T.seq ?_
    refine T.seq ?_
    refine T.drawL [] mixed (by repeat first | exact Calm.rt | apply Calm.t | apply Calm.b | apply Calm.l | apply Calm.ct) ?_
    refine TR.p 0 rfl (by kernel_rfl) (DP.mv (by conv => lhs; whnf)) ?_
    refine TR.d 1 rfl (by kernel_rfl) (by kernel_rfl) (by (refine Ent.imp ?_; repeat first | exact Imp.refl _ | exact Imp.nil _ | (apply Imp.pull; focus ((repeat first | exact Del.head _ _ | apply Del.tail); done)) | (apply Imp.row; focus ((repeat first | exact Del.head _ _ | apply Del.tail); done)) | apply Imp.drop)) (D.ldRA rfl ag42 sz42 (by (repeat first | exact LMem.head _ _ | apply LMem.tail)) (by rfl)) ?_
    refine TR.p 3 rfl (by kernel_rfl) (DP.fa 1 rfl Try.underlying42 rfl rfl sz30) ?_
    refine TR.d 4 rfl (by kernel_rfl) (by kernel_rfl) (by (refine Ent.imp ?_; repeat first | exact Imp.refl _ | exact Imp.nil _ | (apply Imp.pull; focus ((repeat first | exact Del.head _ _ | apply Del.tail); done)) | (apply Imp.row; focus ((repeat first | exact Del.head _ _ | apply Del.tail); done)) | apply Imp.drop)) (D.ldR rfl pl30 (by (repeat first | exact LMem.head _ _ | apply LMem.tail)) (by rfl)) ?_
    refine TR.p 5 rfl (by kernel_rfl) (DP.cv rfl is30 Try.underlying31 (l := 18446744073709551616) rfl (by omega)) ?_
    refine TR.n 2 (by kernel_rfl) rfl (N.callF (shared_spec p a l _ v ss hlen hb ha hl) Try.call41 ⟨rfl, rfl, trivial⟩ (by (repeat first | exact Pick.nil _ | (apply Pick.cons; focus ((repeat first | exact Del.head _ _ | apply Del.tail); done))))) ?_
    rintro u17 _ ⟨_, ⟨rfl, rfl⟩, rfl⟩
    try simp only [List.cons_append, List.nil_append]
    refine ⟨.inr (by (refine Ent.imp ?_; repeat first | exact Imp.refl _ | exact Imp.nil _ | (apply Imp.pull; focus ((repeat first | exact Del.head _ _ | apply Del.tail); done)) | (apply Imp.row; focus ((repeat first | exact Del.head _ _ | apply Del.tail); done)) | apply Imp.drop)), ?_⟩
    refine TR.p 6 rfl (by kernel_rfl) (DP.lss rfl rfl) ?_
    refine TR.done (by kernel_rfl) ?_
    refine TQ.nn ?_
    refine T.condD rfl (fun hc1 => ?_) (fun hc1 => ?_)
    · refine T.seq ?_
      refine T.reg ?_
      refine TO.p (DP.as (by conv => lhs; whnf)) ?_
      refine TO.nil ?_
      refine TQ.nn ?_
      refine T.ret ?_
      refine TQ.nr ?_
      refine TQ.ret (vs := [.int .i64 12]) (L' := [_, _, _]) rfl ⟨rfl, rfl⟩ ⟨rfl, rfl⟩ (by (refine Ent.imp ?_; repeat first | exact Imp.refl _ | exact Imp.nil _ | (apply Imp.pull; focus ((repeat first | exact Del.head _ _ | apply Del.tail); done)) | (apply Imp.row; focus ((repeat first | exact Del.head _ _ | apply Del.tail); done)) | apply Imp.drop))
    · exact absurd hs (by omega)

theorem back_ok (p b a l : Nat) (v : Value) (bs : List UInt8) (ss : List Spn) (hbs : bs.length ≤ 1048576) (hlen : ss.length ≤ 1048576) (hb : ∀ s ∈ ss, s.1 + s.2 ≤ 1048576) (ha : a < 4294967296) (hl : l < 4294967296) (h0 : 0 < l) (h : a + l ≤ bs.length) (hs : l ≤ sharedN ss a l) :
    Sat Try.prog 15 [.pointer (some ⟨p, 0, none⟩), .agg #[.int .u32 a, .int .u32 l]] [row 78 p [.slice (some ⟨b, 0, none⟩) bs.length bs.length, v], row 5 b (bs.map byteV), sl 42 2 v ss.length (spans ss)] (fun u L' => ∃ v', u = .int .i64 0 ∧ L' = [row 78 p [.slice (some ⟨b, 0, none⟩) bs.length bs.length, v'], row 5 b (bs.map byteV), sl 42 2 v' (backL a l ss).length (spans (backL a l ss))]) := by
  refine Sat.enter Try.func15 rfl Try.ntmps15 rfl (fun c R => ?_)
  try simp only [List.cons_append, List.nil_append]
  refine T.seq ?_
  refine T.reg ?_
  refine TO.n (N.bxA rfl) ?_
  rintro _ _ ⟨b3, rfl, rfl⟩
  refine TO.p (DP.as (by conv => lhs; whnf)) ?_
  refine TO.nil ?_
  refine TQ.nn ?_
  refine T.seq ?_
  refine T.seq ?_
  refine T.reg ?_
  refine TO.p (DP.mv (by conv => lhs; whnf)) ?_
  refine TO.d (D.ldRA rfl ag42 sz42 (by (repeat first | exact LMem.head _ _ | apply LMem.tail)) (by rfl)) ?_
  refine TO.n (N.callF (span_ok p bs.length b a l v hbs ha hl h0 h) Try.call42 ⟨rfl, rfl, trivial⟩ (by (repeat first | exact Pick.nil _ | (apply Pick.cons; focus ((repeat first | exact Del.head _ _ | apply Del.tail); done))))) ?_
  rintro u11 _ ⟨_, ⟨rfl, rfl⟩, rfl⟩
  try simp only [List.cons_append, List.nil_append]
  refine TO.p (DP.as (by conv => lhs; whnf)) ?_
  refine TO.nil ?_
  refine TQ.nn ?_
  refine T.seq ?_
  refine T.reg ?_
  refine TO.p (DP.mv (by conv => lhs; whnf)) ?_
  refine TO.p (DP.neq (a := 0) (b := 0) rfl rfl) ?_
  refine TO.nil ?_
  refine TQ.nn ?_
  refine T.condD rfl (fun hc0 => ?_) (fun hc0 => ?_)
  · exact absurd rfl hc0
  · refine T.skip ?_
    refine TQ.nn ?_
    refine T.seq ?_
    refine T.seq ?_
    refine T.drawL [] mixed (by repeat first | exact Calm.rt | apply Calm.t | apply Calm.b | apply Calm.l | apply Calm.ct) ?_
    refine TR.p 0 rfl (by kernel_rfl) (DP.mv (by conv => lhs; whnf)) ?_
    refine TR.d 1 rfl (by kernel_rfl) (by kernel_rfl) (by (refine Ent.imp ?_; repeat first | exact Imp.refl _ | exact Imp.nil _ | (apply Imp.pull; focus ((repeat first | exact Del.head _ _ | apply Del.tail); done)) | (apply Imp.row; focus ((repeat first | exact Del.head _ _ | apply Del.tail); done)) | apply Imp.drop)) (D.ldRA rfl ag42 sz42 (by (repeat first | exact LMem.head _ _ | apply LMem.tail)) (by rfl)) ?_
    refine TR.p 3 rfl (by kernel_rfl) (DP.fa 1 rfl Try.underlying42 rfl rfl sz30) ?_
    refine TR.d 4 rfl (by kernel_rfl) (by kernel_rfl) (by (refine Ent.imp ?_; repeat first | exact Imp.refl _ | exact Imp.nil _ | (apply Imp.pull; focus ((repeat first | exact Del.head _ _ | apply Del.tail); done)) | (apply Imp.row; focus ((repeat first | exact Del.head _ _ | apply Del.tail); done)) | apply Imp.drop)) (D.ldR rfl pl30 (by (repeat first | exact LMem.head _ _ | apply LMem.tail)) (by rfl)) ?_
    refine TR.p 5 rfl (by kernel_rfl) (DP.cv rfl is30 Try.underlying31 (l := 18446744073709551616) rfl (by omega)) ?_
    refine TR.n 2 (by kernel_rfl) rfl (N.callF (shared_spec p a l _ v ss hlen hb ha hl) Try.call41 ⟨rfl, rfl, trivial⟩ (by (repeat first | exact Pick.nil _ | (apply Pick.cons; focus ((repeat first | exact Del.head _ _ | apply Del.tail); done))))) ?_
    rintro u17 _ ⟨_, ⟨rfl, rfl⟩, rfl⟩
    try simp only [List.cons_append, List.nil_append]
    refine ⟨.inr (by (refine Ent.imp ?_; repeat first | exact Imp.refl _ | exact Imp.nil _ | (apply Imp.pull; focus ((repeat first | exact Del.head _ _ | apply Del.tail); done)) | (apply Imp.row; focus ((repeat first | exact Del.head _ _ | apply Del.tail); done)) | apply Imp.drop)), ?_⟩
    refine TR.p 6 rfl (by kernel_rfl) (DP.lss rfl rfl) ?_
    refine TR.done (by kernel_rfl) ?_
    refine TQ.nn ?_
    refine T.condD rfl (fun hc1 => ?_) (fun hc1 => ?_)
    · exact absurd hc1 (by omega)
    · refine T.skip ?_
      refine TQ.nn ?_
      refine T.seq ?_
      refine T.reg ?_
      refine TO.p (DP.as (by conv => lhs; whnf)) ?_
      refine TO.nil ?_
      refine TQ.nn ?_
      refine T.seq ?_
      refine T.seq ?_
      refine T.reg ?_
      refine TO.p (DP.mv (by conv => lhs; whnf)) ?_
      refine TO.p (DP.nck rfl) ?_
      refine TO.p (DP.fa 1 rfl Try.underlying78 rfl rfl sz36) ?_
      refine TO.d (D.ldR rfl pl36 (by (repeat first | exact LMem.head _ _ | apply LMem.tail)) (by rfl)) ?_
      refine TO.d (D.lenO (by conv => lhs; whnf) Try.underlying36 (by (repeat first | exact LMem.head _ _ | apply LMem.tail))) ?_
      refine TO.p (DP.mv (by conv => lhs; whnf)) ?_
      refine TO.nil ?_
      refine TQ.nn ?_
      refine T.block ?_
      refine T.loop (S := Nat × Value) (0, .slice none 0 0) (fun ⟨i, v6⟩ => [(0, .pointer (some ⟨p, 0, none⟩)), (3, .pointer (some ⟨b3, 0, none⟩)), (6, v6), (25, v), (26, .int .i64 (ss.length : Nat)), (27, .int .i64 (i : Nat))]) (fun ⟨i, v6⟩ => sl 42 2 v6 (backL a l (ss.take i)).length (spans (backL a l (ss.take i))) :: row 42 b3 [.int .u32 a, .int .u32 l] :: row 78 p [.slice (some ⟨b, 0, none⟩) bs.length bs.length, v] :: row 5 b (bs.map byteV) :: sl 42 2 v ss.length (spans ss) :: R) (fun ⟨i, v6⟩ => i ≤ ss.length) (fun ⟨i, v6⟩ => ss.length - i) ?_ ?_ ?_ ?_
      · (repeat first | exact trivial | refine ⟨rfl, ?_⟩)
      · exact Nat.zero_le _
      · (refine Ent.trans (Ent.nil (e := 42) (sz := 2)) ?_; (refine Ent.imp ?_; repeat first | exact Imp.refl _ | exact Imp.nil _ | (apply Imp.pull; focus ((repeat first | exact Del.head _ _ | apply Del.tail); done)) | (apply Imp.row; focus ((repeat first | exact Del.head _ _ | apply Del.tail); done)) | apply Imp.drop))
      rintro ⟨i, v6⟩ g hI
      try dsimp only
      refine T.seq ?_
      refine T.reg ?_
      refine TO.p (DP.lss rfl rfl) ?_
      refine TO.nil ?_
      refine TQ.nn ?_
      refine T.seq ?_
      refine T.condD rfl (fun hc2 => ?_) (fun hc2 => ?_)
      · obtain ⟨s, hs1⟩ := get_some hc2
        have hsb := hb s (mem_of_get hs1)
        have hus := flat_elem spv_len hs1
        have hbl := backL_len a l (ss.take i)
        have htl : (ss.take i).length = i := by rw [List.length_take]; omega
        have hbs1 := backL_succ hs1 a l
        unfold backOne at hbs1
        refine T.skip ?_
        refine TQ.nn ?_
        refine T.seq ?_
        refine T.block ?_
        refine T.seq ?_
        refine T.reg ?_
        refine TO.d (D.iasO (by conv => lhs; whnf) rfl Try.underlying36 sz42 (by (repeat first | exact LMem.head _ _ | apply LMem.tail)) (by omega)) ?_
        refine TO.d (D.ldOA (us := [.int .u32 s.1, .int .u32 s.2]) (by conv => lhs; whnf) ag42 sz42 (by (repeat first | exact LMem.head _ _ | apply LMem.tail)) (by omega) hus rfl) ?_
        refine TO.n (N.alA zr42) ?_
        rintro _ _ ⟨b8, rfl, rfl⟩
        refine TO.n0 (N.stA rfl rfl sz42 (by (repeat first | exact Put.head _ _ _ | apply Put.tail)) (by (simp [setAll])) (by (simp [Value.oneCell'])) (by rfl)) ?_
        rintro _ _ ⟨rfl, rfl⟩
        refine TO.nil ?_
        refine TQ.nn ?_
        refine T.seq ?_
        refine T.seq ?_
        refine T.drawL [9] mixed (by repeat first | exact Calm.rt | apply Calm.t | apply Calm.b | apply Calm.l | apply Calm.ct) ?_
        refine TR.p 0 rfl (by kernel_rfl) (DP.fa 0 rfl Try.underlying42 rfl rfl sz30) ?_
        refine TR.d 1 rfl (by kernel_rfl) (by kernel_rfl) (by (refine Ent.imp ?_; repeat first | exact Imp.refl _ | exact Imp.nil _ | (apply Imp.pull; focus ((repeat first | exact Del.head _ _ | apply Del.tail); done)) | (apply Imp.row; focus ((repeat first | exact Del.head _ _ | apply Del.tail); done)) | apply Imp.drop)) (D.ldR rfl pl30 (by (repeat first | exact LMem.head _ _ | apply LMem.tail)) (by rfl)) ?_
        refine TR.p 2 rfl (by kernel_rfl) (DP.fa 0 rfl Try.underlying42 rfl rfl sz30) ?_
        refine TR.d 3 rfl (by kernel_rfl) (by kernel_rfl) (by (refine Ent.imp ?_; repeat first | exact Imp.refl _ | exact Imp.nil _ | (apply Imp.pull; focus ((repeat first | exact Del.head _ _ | apply Del.tail); done)) | (apply Imp.row; focus ((repeat first | exact Del.head _ _ | apply Del.tail); done)) | apply Imp.drop)) (D.ldR rfl pl30 (by (repeat first | exact LMem.head _ _ | apply LMem.tail)) (by rfl)) ?_
        refine TR.p 4 rfl (by kernel_rfl) (DP.leq rfl rfl) ?_
        refine TR.pB 5 rfl (by kernel_rfl) (DP.mv (by conv => lhs; whnf)) (fun hg36 => ?_) (fun hg36 => ?_)
        · refine TR.don 6 rfl (by kernel_rfl) (by kernel_rfl) (by (refine Ent.imp ?_; repeat first | exact Imp.refl _ | exact Imp.nil _ | (apply Imp.pull; focus ((repeat first | exact Del.head _ _ | apply Del.tail); done)) | (apply Imp.row; focus ((repeat first | exact Del.head _ _ | apply Del.tail); done)) | apply Imp.drop)) rfl (D.ldRA rfl ag42 sz42 (by (repeat first | exact LMem.head _ _ | apply LMem.tail)) (by rfl)) ?_
          refine TR.don 8 rfl (by kernel_rfl) (by kernel_rfl) (by (refine Ent.imp ?_; repeat first | exact Imp.refl _ | exact Imp.nil _ | (apply Imp.pull; focus ((repeat first | exact Del.head _ _ | apply Del.tail); done)) | (apply Imp.row; focus ((repeat first | exact Del.head _ _ | apply Del.tail); done)) | apply Imp.drop)) rfl (D.ldRA rfl ag42 sz42 (by (repeat first | exact LMem.head _ _ | apply LMem.tail)) (by rfl)) ?_
          refine TR.non 7 (by kernel_rfl) rfl rfl (N.callF (end_spec a l ha hl) Try.call46 ⟨rfl, trivial⟩ (by (repeat first | exact Pick.nil _ | (apply Pick.cons; focus ((repeat first | exact Del.head _ _ | apply Del.tail); done))))) ?_
          rintro u38 _ ⟨_, ⟨rfl, rfl⟩, rfl⟩
          try simp only [List.cons_append, List.nil_append]
          refine ⟨.inr (by (refine Ent.imp ?_; repeat first | exact Imp.refl _ | exact Imp.nil _ | (apply Imp.pull; focus ((repeat first | exact Del.head _ _ | apply Del.tail); done)) | (apply Imp.row; focus ((repeat first | exact Del.head _ _ | apply Del.tail); done)) | apply Imp.drop)), ?_⟩
          refine TR.non 9 (by kernel_rfl) rfl rfl (N.callF (end_spec s.1 s.2 (by omega) (by omega)) Try.call46 ⟨rfl, trivial⟩ (by (repeat first | exact Pick.nil _ | (apply Pick.cons; focus ((repeat first | exact Del.head _ _ | apply Del.tail); done))))) ?_
          rintro u40 _ ⟨_, ⟨rfl, rfl⟩, rfl⟩
          try simp only [List.cons_append, List.nil_append]
          refine ⟨.inl rfl, ?_⟩
          refine TR.pon 10 rfl (by kernel_rfl) rfl (DP.leq rfl rfl) ?_
          refine TR.p 11 rfl (by kernel_rfl) (DP.pkT rfl (by conv => lhs; whnf)) ?_
          refine TR.done (by kernel_rfl) ?_
          refine TQ.nn ?_
          refine T.condD rfl (fun hc3 => ?_) (fun hc3 => ?_)
          · refine T.cut (S := Value × List Spn) (fun ⟨v7, acc⟩ => [(0, .pointer (some ⟨p, 0, none⟩)), (3, .pointer (some ⟨b3, 0, none⟩)), (6, v7), (8, .pointer (some ⟨b8, 0, none⟩)), (25, v), (26, .int .i64 (ss.length : Nat)), (27, .int .i64 (i : Nat))]) (fun ⟨v7, acc⟩ => sl 42 2 v7 acc.length (spans acc) :: row 42 b8 [.int .u32 s.1, .int .u32 s.2] :: row 42 b3 [.int .u32 a, .int .u32 l] :: row 78 p [.slice (some ⟨b, 0, none⟩) bs.length bs.length, v] :: row 5 b (bs.map byteV) :: sl 42 2 v ss.length (spans ss) :: R) (fun ⟨v7, acc⟩ => acc = backL a l (ss.take i) ++ (if s.1 < a then [(s.1, a - s.1)] else [])) ?_ ?_
            · refine T.seq ?_
              refine T.reg ?_
              refine TO.p (DP.fa 0 rfl Try.underlying42 rfl rfl sz30) ?_
              refine TO.d (D.ldR rfl pl30 (by (repeat first | exact LMem.head _ _ | apply LMem.tail)) (by rfl)) ?_
              refine TO.p (DP.fa 0 rfl Try.underlying42 rfl rfl sz30) ?_
              refine TO.d (D.ldR rfl pl30 (by (repeat first | exact LMem.head _ _ | apply LMem.tail)) (by rfl)) ?_
              refine TO.p (DP.lss rfl rfl) ?_
              refine TO.nil ?_
              refine TQ.nn ?_
              refine T.condD rfl (fun hc4 => ?_) (fun hc4 => ?_)
              · refine T.reg ?_
                refine TO.p (DP.mv (by conv => lhs; whnf)) ?_
                refine TO.p (DP.fa 0 rfl Try.underlying42 rfl rfl sz30) ?_
                refine TO.d (D.ldR rfl pl30 (by (repeat first | exact LMem.head _ _ | apply LMem.tail)) (by rfl)) ?_
                refine TO.p (DP.fa 0 rfl Try.underlying42 rfl rfl sz30) ?_
                refine TO.d (D.ldR rfl pl30 (by (repeat first | exact LMem.head _ _ | apply LMem.tail)) (by rfl)) ?_
                refine TO.p (DP.fa 0 rfl Try.underlying42 rfl rfl sz30) ?_
                refine TO.d (D.ldR rfl pl30 (by (repeat first | exact LMem.head _ _ | apply LMem.tail)) (by rfl)) ?_
                refine TO.p (DP.sub rfl rfl (l := 4294967296) rfl (by omega) (by omega)) ?_
                refine TO.p (DP.bdL (vs := [(0, _), (1, _)]) (us := [_, _]) ⟨rfl, (by conv => lhs; whnf), rfl, (by conv => lhs; whnf), trivial⟩ pc42 zr42 rfl) ?_
                refine TO.n (N.bsL (len := 1) (vs := [(0, _)]) (us := [_, _]) ⟨rfl, (by conv => lhs; whnf), trivial⟩ Try.underlying36 sz42 zr42 rfl (by omega) rfl) ?_
                rintro _ _ ⟨b57, rfl, rfl⟩
                refine TO.n (N.app rfl rfl Try.underlying36 sz42 by42 zr42 rfl rfl (by (repeat first | exact Del.head _ _ | apply Del.tail)) (Src.sl (news := [.int .u32 ((s.1 : Nat) : Int), .int .u32 ((a - s.1 : Nat) : Int)]) Try.underlying36 rfl (by (repeat first | exact LMem.head _ _ | apply LMem.tail)) (ReadsN.cells (fun i v hv => by simpa using hv))) (by intro u hu; simp at hu; rcases hu with rfl | rfl <;> rfl) (by omega)) ?_
                rintro u58 _ rfl
                rw [spans_snoc, ← len_snoc (backL a l (ss.take i)) (s.1) (a - s.1)]
                refine TO.p (DP.as (by conv => lhs; whnf)) ?_
                refine TO.nil ?_
                refine TQ.cn ⟨u58, backL a l (ss.take i) ++ [(s.1, a - s.1)]⟩ rfl ?_ ?_ ?_
                · (repeat first | exact trivial | refine ⟨rfl, ?_⟩)
                · dsimp only; rw [if_pos hc4]
                · (refine Ent.imp ?_; repeat first | exact Imp.refl _ | exact Imp.nil _ | (apply Imp.pull; focus ((repeat first | exact Del.head _ _ | apply Del.tail); done)) | (apply Imp.row; focus ((repeat first | exact Del.head _ _ | apply Del.tail); done)) | apply Imp.drop)
              · refine T.skip ?_
                refine TQ.cn ⟨v6, backL a l (ss.take i)⟩ rfl ?_ ?_ ?_
                · (repeat first | exact trivial | refine ⟨rfl, ?_⟩)
                · dsimp only; rw [if_neg hc4]; simp
                · (refine Ent.imp ?_; repeat first | exact Imp.refl _ | exact Imp.nil _ | (apply Imp.pull; focus ((repeat first | exact Del.head _ _ | apply Del.tail); done)) | (apply Imp.row; focus ((repeat first | exact Del.head _ _ | apply Del.tail); done)) | apply Imp.drop)
            rintro ⟨v7, acc⟩ g hacc
            try dsimp only
            refine T.seq ?_
            refine T.seq ?_
            have hal : acc.length ≤ 2 * i + 1 := by rw [hacc, List.length_append]; split <;> simp only [List.length_cons, List.length_nil] <;> omega
            refine T.drawL [3] mixed (by repeat first | exact Calm.rt | apply Calm.t | apply Calm.b | apply Calm.l | apply Calm.ct) ?_
            refine TR.d 0 rfl (by kernel_rfl) (by kernel_rfl) (by (refine Ent.imp ?_; repeat first | exact Imp.refl _ | exact Imp.nil _ | (apply Imp.pull; focus ((repeat first | exact Del.head _ _ | apply Del.tail); done)) | (apply Imp.row; focus ((repeat first | exact Del.head _ _ | apply Del.tail); done)) | apply Imp.drop)) (D.ldRA rfl ag42 sz42 (by (repeat first | exact LMem.head _ _ | apply LMem.tail)) (by rfl)) ?_
            refine TR.d 2 rfl (by kernel_rfl) (by kernel_rfl) (by (refine Ent.imp ?_; repeat first | exact Imp.refl _ | exact Imp.nil _ | (apply Imp.pull; focus ((repeat first | exact Del.head _ _ | apply Del.tail); done)) | (apply Imp.row; focus ((repeat first | exact Del.head _ _ | apply Del.tail); done)) | apply Imp.drop)) (D.ldRA rfl ag42 sz42 (by (repeat first | exact LMem.head _ _ | apply LMem.tail)) (by rfl)) ?_
            refine TR.n 1 (by kernel_rfl) rfl (N.callF (end_spec a l ha hl) Try.call46 ⟨rfl, trivial⟩ (by (repeat first | exact Pick.nil _ | (apply Pick.cons; focus ((repeat first | exact Del.head _ _ | apply Del.tail); done))))) ?_
            rintro u60 _ ⟨_, ⟨rfl, rfl⟩, rfl⟩
            try simp only [List.cons_append, List.nil_append]
            refine ⟨.inr (by (refine Ent.imp ?_; repeat first | exact Imp.refl _ | exact Imp.nil _ | (apply Imp.pull; focus ((repeat first | exact Del.head _ _ | apply Del.tail); done)) | (apply Imp.row; focus ((repeat first | exact Del.head _ _ | apply Del.tail); done)) | apply Imp.drop)), ?_⟩
            refine TR.n 3 (by kernel_rfl) rfl (N.callF (end_spec s.1 s.2 (by omega) (by omega)) Try.call46 ⟨rfl, trivial⟩ (by (repeat first | exact Pick.nil _ | (apply Pick.cons; focus ((repeat first | exact Del.head _ _ | apply Del.tail); done))))) ?_
            rintro u62 _ ⟨_, ⟨rfl, rfl⟩, rfl⟩
            try simp only [List.cons_append, List.nil_append]
            refine ⟨.inl rfl, ?_⟩
            refine TR.p 4 rfl (by kernel_rfl) (DP.lss rfl rfl) ?_
            refine TR.done (by kernel_rfl) ?_
            refine TQ.nn ?_
            refine T.condD rfl (fun hc5 => ?_) (fun hc5 => ?_)
            · refine T.drawL [7, 11, 12] mixed (by repeat first | exact Calm.rt | apply Calm.t | apply Calm.b | apply Calm.l | apply Calm.ct) ?_
              refine TR.p 0 rfl (by kernel_rfl) (DP.mv (by conv => lhs; whnf)) ?_
              refine TR.d 1 rfl (by kernel_rfl) (by kernel_rfl) (by (refine Ent.imp ?_; repeat first | exact Imp.refl _ | exact Imp.nil _ | (apply Imp.pull; focus ((repeat first | exact Del.head _ _ | apply Del.tail); done)) | (apply Imp.row; focus ((repeat first | exact Del.head _ _ | apply Del.tail); done)) | apply Imp.drop)) (D.ldRA rfl ag42 sz42 (by (repeat first | exact LMem.head _ _ | apply LMem.tail)) (by rfl)) ?_
              refine TR.d 4 rfl (by kernel_rfl) (by kernel_rfl) (by (refine Ent.imp ?_; repeat first | exact Imp.refl _ | exact Imp.nil _ | (apply Imp.pull; focus ((repeat first | exact Del.head _ _ | apply Del.tail); done)) | (apply Imp.row; focus ((repeat first | exact Del.head _ _ | apply Del.tail); done)) | apply Imp.drop)) (D.ldRA rfl ag42 sz42 (by (repeat first | exact LMem.head _ _ | apply LMem.tail)) (by rfl)) ?_
              refine TR.d 6 rfl (by kernel_rfl) (by kernel_rfl) (by (refine Ent.imp ?_; repeat first | exact Imp.refl _ | exact Imp.nil _ | (apply Imp.pull; focus ((repeat first | exact Del.head _ _ | apply Del.tail); done)) | (apply Imp.row; focus ((repeat first | exact Del.head _ _ | apply Del.tail); done)) | apply Imp.drop)) (D.ldRA rfl ag42 sz42 (by (repeat first | exact LMem.head _ _ | apply LMem.tail)) (by rfl)) ?_
              refine TR.n 2 (by kernel_rfl) rfl (N.callF (end_spec a l ha hl) Try.call46 ⟨rfl, trivial⟩ (by (repeat first | exact Pick.nil _ | (apply Pick.cons; focus ((repeat first | exact Del.head _ _ | apply Del.tail); done))))) ?_
              rintro u66 _ ⟨_, ⟨rfl, rfl⟩, rfl⟩
              try simp only [List.cons_append, List.nil_append]
              refine ⟨.inr (by (refine Ent.imp ?_; repeat first | exact Imp.refl _ | exact Imp.nil _ | (apply Imp.pull; focus ((repeat first | exact Del.head _ _ | apply Del.tail); done)) | (apply Imp.row; focus ((repeat first | exact Del.head _ _ | apply Del.tail); done)) | apply Imp.drop)), ?_⟩
              refine TR.p 3 rfl (by kernel_rfl) (DP.cv rfl is31 Try.underlying30 (l := 4294967296) rfl (by omega)) ?_
              refine TR.n 5 (by kernel_rfl) rfl (N.callF (end_spec s.1 s.2 (by omega) (by omega)) Try.call46 ⟨rfl, trivial⟩ (by (repeat first | exact Pick.nil _ | (apply Pick.cons; focus ((repeat first | exact Del.head _ _ | apply Del.tail); done))))) ?_
              rintro u69 _ ⟨_, ⟨rfl, rfl⟩, rfl⟩
              try simp only [List.cons_append, List.nil_append]
              refine ⟨.inr (by (refine Ent.imp ?_; repeat first | exact Imp.refl _ | exact Imp.nil _ | (apply Imp.pull; focus ((repeat first | exact Del.head _ _ | apply Del.tail); done)) | (apply Imp.row; focus ((repeat first | exact Del.head _ _ | apply Del.tail); done)) | apply Imp.drop)), ?_⟩
              refine TR.n 7 (by kernel_rfl) rfl (N.callF (end_spec a l ha hl) Try.call46 ⟨rfl, trivial⟩ (by (repeat first | exact Pick.nil _ | (apply Pick.cons; focus ((repeat first | exact Del.head _ _ | apply Del.tail); done))))) ?_
              rintro u71 _ ⟨_, ⟨rfl, rfl⟩, rfl⟩
              try simp only [List.cons_append, List.nil_append]
              refine ⟨.inl rfl, ?_⟩
              refine TR.p 8 rfl (by kernel_rfl) (DP.sub rfl rfl (l := 18446744073709551616) rfl (by omega) (by omega)) ?_
              refine TR.p 9 rfl (by kernel_rfl) (DP.cv rfl is31 Try.underlying30 (l := 4294967296) rfl (by omega)) ?_
              refine TR.p 10 rfl (by kernel_rfl) (DP.bdL (vs := [(0, _), (1, _)]) (us := [_, _]) ⟨rfl, (by conv => lhs; whnf), rfl, (by conv => lhs; whnf), trivial⟩ pc42 zr42 rfl) ?_
              refine TR.n 11 (by kernel_rfl) rfl (N.bsL (len := 1) (vs := [(0, _)]) (us := [_, _]) ⟨rfl, (by conv => lhs; whnf), trivial⟩ Try.underlying36 sz42 zr42 rfl (by omega) rfl) ?_
              rintro _ _ ⟨b75, rfl, rfl⟩
              refine ⟨.inl rfl, ?_⟩
              refine TR.n 12 (by kernel_rfl) rfl (N.app rfl rfl Try.underlying36 sz42 by42 zr42 rfl rfl (by (repeat first | exact Del.head _ _ | apply Del.tail)) (Src.sl (news := [.int .u32 ((a + l : Nat) : Int), .int .u32 ((s.1 + s.2 - (a + l) : Nat) : Int)]) Try.underlying36 rfl (by (repeat first | exact LMem.head _ _ | apply LMem.tail)) (ReadsN.cells (fun i v hv => by simpa using hv))) (by intro u hu; simp at hu; rcases hu with rfl | rfl <;> rfl) (by omega)) ?_
              rintro u76 _ rfl
              rw [spans_snoc, ← len_snoc (acc) (a + l) (s.1 + s.2 - (a + l))]
              refine ⟨.inl rfl, ?_⟩
              refine TR.p 13 rfl (by kernel_rfl) (DP.as (by conv => lhs; whnf)) ?_
              refine TR.done (by kernel_rfl) ?_
              refine TQ.nn ?_
              refine T.exit ?_
              refine TQ.ne ?_
              refine TQ.be ?_
              refine TQ.nn ?_
              have hnx : backL a l (ss.take (i + 1)) = acc ++ [(a + l, s.1 + s.2 - (a + l))] := by rw [hbs1, if_pos ⟨hg36, hc3⟩, if_pos hc5, hacc, List.append_assoc]
              refine T.reg ?_
              refine TO.p (DP.add (b := 1) rfl rfl (l := 9223372036854775808) rfl (by omega)) ?_
              refine TO.p (DP.mv (by conv => lhs; whnf)) ?_
              refine TO.nil ?_
              refine TQ.round (i + 1, u76) rfl ?_ ?_ ?_ ?_
              · (repeat first | exact trivial | refine ⟨rfl, ?_⟩)
              · (dsimp only; omega)
              · (dsimp only; omega)
              · (dsimp only; rw [hnx]; (refine Ent.imp ?_; repeat first | exact Imp.refl _ | exact Imp.nil _ | (apply Imp.pull; focus ((repeat first | exact Del.head _ _ | apply Del.tail); done)) | (apply Imp.row; focus ((repeat first | exact Del.head _ _ | apply Del.tail); done)) | apply Imp.drop))
            · refine T.skip ?_
              refine TQ.nn ?_
              refine T.exit ?_
              refine TQ.ne ?_
              refine TQ.be ?_
              refine TQ.nn ?_
              have hnx : backL a l (ss.take (i + 1)) = acc := by rw [hbs1, if_pos ⟨hg36, hc3⟩, if_neg hc5, hacc, List.append_nil]
              refine T.reg ?_
              refine TO.p (DP.add (b := 1) rfl rfl (l := 9223372036854775808) rfl (by omega)) ?_
              refine TO.p (DP.mv (by conv => lhs; whnf)) ?_
              refine TO.nil ?_
              refine TQ.round (i + 1, v7) rfl ?_ ?_ ?_ ?_
              · (repeat first | exact trivial | refine ⟨rfl, ?_⟩)
              · (dsimp only; omega)
              · (dsimp only; omega)
              · (dsimp only; rw [hnx]; (refine Ent.imp ?_; repeat first | exact Imp.refl _ | exact Imp.nil _ | (apply Imp.pull; focus ((repeat first | exact Del.head _ _ | apply Del.tail); done)) | (apply Imp.row; focus ((repeat first | exact Del.head _ _ | apply Del.tail); done)) | apply Imp.drop))
          · refine T.skip ?_
            refine TQ.nn ?_
            refine T.reg ?_
            refine TO.p (DP.mv (by conv => lhs; whnf)) ?_
            refine TO.d (D.ldRA rfl ag42 sz42 (by (repeat first | exact LMem.head _ _ | apply LMem.tail)) (by rfl)) ?_
            refine TO.n (N.bsL (len := 1) (vs := [(0, _)]) (us := [_, _]) ⟨rfl, (by conv => lhs; whnf), trivial⟩ Try.underlying36 sz42 zr42 rfl (by omega) rfl) ?_
            rintro _ _ ⟨b79, rfl, rfl⟩
            refine TO.n (N.app rfl rfl Try.underlying36 sz42 by42 zr42 rfl rfl (by (repeat first | exact Del.head _ _ | apply Del.tail)) (Src.sl (news := [.int .u32 ((s.1 : Nat) : Int), .int .u32 ((s.2 : Nat) : Int)]) Try.underlying36 rfl (by (repeat first | exact LMem.head _ _ | apply LMem.tail)) (ReadsN.cells (fun i v hv => by simpa using hv))) (by intro u hu; simp at hu; rcases hu with rfl | rfl <;> rfl) (by omega)) ?_
            rintro u80 _ rfl
            rw [spans_snoc, ← len_snoc (backL a l (ss.take i)) (s.1) (s.2)]
            refine TO.p (DP.as (by conv => lhs; whnf)) ?_
            refine TO.nil ?_
            refine TQ.bn ?_
            refine TQ.nn ?_
            have hnx : backL a l (ss.take (i + 1)) = backL a l (ss.take i) ++ [(s.1, s.2)] := by rw [hbs1, if_neg (by intro hh; first | exact hg36 hh.1 | exact hc3 hh.2)]
            refine T.reg ?_
            refine TO.p (DP.add (b := 1) rfl rfl (l := 9223372036854775808) rfl (by omega)) ?_
            refine TO.p (DP.mv (by conv => lhs; whnf)) ?_
            refine TO.nil ?_
            refine TQ.round (i + 1, u80) rfl ?_ ?_ ?_ ?_
            · (repeat first | exact trivial | refine ⟨rfl, ?_⟩)
            · (dsimp only; omega)
            · (dsimp only; omega)
            · (dsimp only; rw [hnx]; (refine Ent.imp ?_; repeat first | exact Imp.refl _ | exact Imp.nil _ | (apply Imp.pull; focus ((repeat first | exact Del.head _ _ | apply Del.tail); done)) | (apply Imp.row; focus ((repeat first | exact Del.head _ _ | apply Del.tail); done)) | apply Imp.drop))
        · refine TR.off 6 rfl (by kernel_rfl) rfl rfl ?_
          refine TR.off 7 rfl (by kernel_rfl) rfl rfl ?_
          refine TR.off 8 rfl (by kernel_rfl) rfl rfl ?_
          refine TR.off 9 rfl (by kernel_rfl) rfl rfl ?_
          refine TR.off 10 rfl (by kernel_rfl) rfl rfl ?_
          refine TR.p 11 rfl (by kernel_rfl) (DP.pkF rfl (by conv => lhs; whnf)) ?_
          refine TR.done (by kernel_rfl) ?_
          refine TQ.nn ?_
          refine T.condF rfl ?_
          refine T.skip ?_
          refine TQ.nn ?_
          refine T.reg ?_
          refine TO.p (DP.mv (by conv => lhs; whnf)) ?_
          refine TO.d (D.ldRA rfl ag42 sz42 (by (repeat first | exact LMem.head _ _ | apply LMem.tail)) (by rfl)) ?_
          refine TO.n (N.bsL (len := 1) (vs := [(0, _)]) (us := [_, _]) ⟨rfl, (by conv => lhs; whnf), trivial⟩ Try.underlying36 sz42 zr42 rfl (by omega) rfl) ?_
          rintro _ _ ⟨b79, rfl, rfl⟩
          refine TO.n (N.app rfl rfl Try.underlying36 sz42 by42 zr42 rfl rfl (by (repeat first | exact Del.head _ _ | apply Del.tail)) (Src.sl (news := [.int .u32 ((s.1 : Nat) : Int), .int .u32 ((s.2 : Nat) : Int)]) Try.underlying36 rfl (by (repeat first | exact LMem.head _ _ | apply LMem.tail)) (ReadsN.cells (fun i v hv => by simpa using hv))) (by intro u hu; simp at hu; rcases hu with rfl | rfl <;> rfl) (by omega)) ?_
          rintro u80 _ rfl
          rw [spans_snoc, ← len_snoc (backL a l (ss.take i)) (s.1) (s.2)]
          refine TO.p (DP.as (by conv => lhs; whnf)) ?_
          refine TO.nil ?_
          refine TQ.bn ?_
          refine TQ.nn ?_
          have hnx : backL a l (ss.take (i + 1)) = backL a l (ss.take i) ++ [(s.1, s.2)] := by rw [hbs1, if_neg (by intro hh; first | exact hg36 hh.1 | exact hc3 hh.2)]
          refine T.reg ?_
          refine TO.p (DP.add (b := 1) rfl rfl (l := 9223372036854775808) rfl (by omega)) ?_
          refine TO.p (DP.mv (by conv => lhs; whnf)) ?_
          refine TO.nil ?_
          refine TQ.round (i + 1, u80) rfl ?_ ?_ ?_ ?_
          · (repeat first | exact trivial | refine ⟨rfl, ?_⟩)
          · (dsimp only; omega)
          · (dsimp only; omega)
          · (dsimp only; rw [hnx]; (refine Ent.imp ?_; repeat first | exact Imp.refl _ | exact Imp.nil _ | (apply Imp.pull; focus ((repeat first | exact Del.head _ _ | apply Del.tail); done)) | (apply Imp.row; focus ((repeat first | exact Del.head _ _ | apply Del.tail); done)) | apply Imp.drop))
      · obtain rfl : i = ss.length := by omega
        refine T.exit ?_
        refine TQ.ne ?_
        refine TQ.le ?_
        refine TQ.be ?_
        refine TQ.nn ?_
        refine T.seq ?_
        rw [List.take_length]
        refine T.reg ?_
        refine TO.p (DP.mv (by conv => lhs; whnf)) ?_
        refine TO.p (DP.mv (by conv => lhs; whnf)) ?_
        refine TO.p (DP.nck rfl) ?_
        refine TO.p (DP.fa 1 rfl Try.underlying78 rfl rfl sz36) ?_
        refine TO.n0 (N.stS rfl (by conv => lhs; whnf) sz36 (by (repeat first | exact LMem.head _ _ | apply LMem.tail)) (by (repeat first | exact Put.head _ _ _ | apply Put.tail)) (by simp)) ?_
        rintro _ _ ⟨rfl, rfl⟩
        refine TO.nil ?_
        refine TQ.nn ?_
        refine T.seq ?_
        refine T.reg ?_
        refine TO.p (DP.as (by conv => lhs; whnf)) ?_
        refine TO.nil ?_
        refine TQ.nn ?_
        refine T.ret ?_
        refine TQ.ret (vs := [.int .i64 0]) (L' := [row 78 p [.slice (some ⟨b, 0, none⟩) bs.length bs.length, v6], row 5 b (bs.map byteV), sl 42 2 v6 _ _]) rfl ⟨rfl, rfl⟩ ⟨v6, rfl, rfl⟩ (by (refine Ent.imp ?_; repeat first | exact Imp.refl _ | exact Imp.nil _ | (apply Imp.pull; focus ((repeat first | exact Del.head _ _ | apply Del.tail); done)) | (apply Imp.row; focus ((repeat first | exact Del.head _ _ | apply Del.tail); done)) | apply Imp.drop))
end Go.Proofs.Ytpidkdkbgjnhlaa
