/- Lemmas for the proofs of this seat: no statement of the seat is claimed here. -/
import Derived.Test.YtbandaebilkkkaaDoorK11
set_option linter.all false
namespace Go.Proofs.YtbandaebilkkkaaDoor
open Go Pw
set_option maxRecDepth 20000
set_option maxHeartbeats 4000000

theorem rfind_ge {a : Nat} {l : List Nr} : 0 ≤ rfindE a l ↔ hasE a l = true := by
  unfold rfindE
  by_cases h : hasE a l = true
  · rw [if_pos h]; simp only [h, iff_true]; omega
  · rw [if_neg h]; simp only [h, iff_false]; decide
theorem rfind_at {a : Nat} {l : List Nr} (h : hasE a l = true) : rfindE a l = ((posE a l : Nat) : Int) := if_pos h
theorem rlearn_spec (q : Tb) (l : List Nr) (v : Value) (p : Nat) (hlen : l.length ≤ 1048576) (addr : Nat) (mac : List UInt8) (now : Nat) (hq : q.ok) (hs : Srt l) (ha : addr < 4294967296) (hm : mac.length ≤ 1048576) :
    Sat Tryd.prog 29 [.pointer (some ⟨p, 0, none⟩), .int .u32 addr, str mac, .int .u64 now] [row 80 p (tabV q v), sl 40 3 v (l).length ((l).flatMap nearV)] (fun u L' => u = .int .i64 ((learnE q l addr mac now).2 : Nat) ∧ ∃ v2, L' = [row 80 p (tabV q v2), sl 40 3 v2 ((learnE q l addr mac now).1).length (((learnE q l addr mac now).1).flatMap nearV)]) := by
  refine Sat.enter Tryd.func29 rfl Tryd.ntmps29 rfl (fun c R => ?_)
  try simp only [List.cons_append, List.nil_append]
  refine T.seq ?_
  refine T.reg ?_
  refine TO.p (DP.as (by conv => lhs; whnf)) ?_
  refine TO.nil ?_
  refine TQ.nn ?_
  refine T.seq ?_
  refine T.seq ?_
  refine T.reg ?_
  refine TO.p (DP.mv (by conv => lhs; whnf)) ?_
  refine TO.n (N.callF (raloneA_spec addr ha) Tryd.call26 ⟨rfl, trivial⟩ (by (repeat first | exact Pick.nil _ | (apply Pick.cons; focus ((repeat first | exact Del.head _ _ | apply Del.tail); done))))) ?_
  rintro u15 _ ⟨_, ⟨rfl, rfl⟩, rfl⟩
  try simp only [List.cons_append, List.nil_append]
  refine TO.p (DP.not rfl) ?_
  refine TO.pb (DP.mv (by conv => lhs; whnf)) (fun hg17 => ?_) (fun hg17 => ?_)
  · refine TO.off rfl rfl ?_
    refine TO.off rfl rfl ?_
    refine TO.off rfl rfl ?_
    refine TO.p (DP.pkT rfl (by conv => lhs; whnf)) ?_
    refine TO.p (DP.mv (by conv => lhs; whnf)) ?_
    refine TO.off rfl rfl ?_
    refine TO.off rfl rfl ?_
    refine TO.off rfl rfl ?_
    refine TO.off rfl rfl ?_
    refine TO.off rfl rfl ?_
    refine TO.off rfl rfl ?_
    refine TO.p (DP.pkT rfl (by conv => lhs; whnf)) ?_
    refine TO.p (DP.mv (by conv => lhs; whnf)) ?_
    refine TO.off rfl rfl ?_
    refine TO.off rfl rfl ?_
    refine TO.p (DP.pkT rfl (by conv => lhs; whnf)) ?_
    refine TO.nil ?_
    refine TQ.nn ?_
    refine T.condT rfl ?_
    refine T.seq ?_
    refine T.reg ?_
    refine TO.p (DP.as (by conv => lhs; whnf)) ?_
    refine TO.nil ?_
    refine TQ.nn ?_
    refine T.ret ?_
    refine TQ.nr ?_
    rw [learn_bad (.inl (by simpa using hg17))]
    refine TQ.ret (vs := [.int .i64 (2 : Nat)]) (L' := [row 80 p (tabV q v), sl 40 3 v (l).length ((l).flatMap nearV)]) rfl ⟨rfl, rfl⟩ ⟨rfl, _, rfl⟩ (by (refine Ent.imp ?_; repeat first | exact Imp.refl _ | exact Imp.nil _ | (apply Imp.pull; focus ((repeat first | exact Del.head _ _ | apply Del.tail); done)) | (apply Imp.row; focus ((repeat first | exact Del.head _ _ | apply Del.tail); done)) | apply Imp.drop))
  · refine TO.onP rfl (DP.mv (by conv => lhs; whnf)) ?_
    refine TO.on rfl (N.callF (ralone_spec mac hm) Tryd.call15 ⟨rfl, trivial⟩ (by (repeat first | exact Pick.nil _ | (apply Pick.cons; focus ((repeat first | exact Del.head _ _ | apply Del.tail); done))))) ?_
    rintro u19 _ ⟨_, ⟨rfl, rfl⟩, rfl⟩
    try simp only [List.cons_append, List.nil_append]
    refine TO.onP rfl (DP.not rfl) ?_
    refine TO.p (DP.pkF rfl (by conv => lhs; whnf)) ?_
    refine TO.pb (DP.mv (by conv => lhs; whnf)) (fun hg22 => ?_) (fun hg22 => ?_)
    · refine TO.off rfl rfl ?_
      refine TO.off rfl rfl ?_
      refine TO.off rfl rfl ?_
      refine TO.off rfl rfl ?_
      refine TO.off rfl rfl ?_
      refine TO.off rfl rfl ?_
      refine TO.p (DP.pkT rfl (by conv => lhs; whnf)) ?_
      refine TO.p (DP.mv (by conv => lhs; whnf)) ?_
      refine TO.off rfl rfl ?_
      refine TO.off rfl rfl ?_
      refine TO.p (DP.pkT rfl (by conv => lhs; whnf)) ?_
      refine TO.nil ?_
      refine TQ.nn ?_
      refine T.condT rfl ?_
      refine T.seq ?_
      refine T.reg ?_
      refine TO.p (DP.as (by conv => lhs; whnf)) ?_
      refine TO.nil ?_
      refine TQ.nn ?_
      refine T.ret ?_
      refine TQ.nr ?_
      rw [learn_bad (.inr (.inl (by simpa using hg22)))]
      refine TQ.ret (vs := [.int .i64 (2 : Nat)]) (L' := [row 80 p (tabV q v), sl 40 3 v (l).length ((l).flatMap nearV)]) rfl ⟨rfl, rfl⟩ ⟨rfl, _, rfl⟩ (by (refine Ent.imp ?_; repeat first | exact Imp.refl _ | exact Imp.nil _ | (apply Imp.pull; focus ((repeat first | exact Del.head _ _ | apply Del.tail); done)) | (apply Imp.row; focus ((repeat first | exact Del.head _ _ | apply Del.tail); done)) | apply Imp.drop))
    · refine TO.onP rfl (DP.mv (by conv => lhs; whnf)) ?_
      refine TO.onP rfl (DP.mv (by conv => lhs; whnf)) ?_
      refine TO.onP rfl (DP.nck rfl) ?_
      refine TO.onP rfl (DP.fa 1 rfl Tryd.underlying80 rfl rfl sz26) ?_
      refine TO.onD rfl (D.ldR (v := .int .u32 q.addr) rfl pl26 (by (repeat first | exact LMem.head _ _ | apply LMem.tail)) rfl) ?_
      refine TO.onP rfl ((by first | exact DP.eql rfl rfl | exact DP.eqlI rfl rfl)) ?_
      refine TO.p (DP.pkF rfl (by conv => lhs; whnf)) ?_
      refine TO.pB (DP.mv (by conv => lhs; whnf)) (fun hg30 => ?_) (fun hg30 => ?_)
      · refine TO.off rfl rfl ?_
        refine TO.off rfl rfl ?_
        refine TO.p (DP.pkT rfl (by conv => lhs; whnf)) ?_
        refine TO.nil ?_
        refine TQ.nn ?_
        refine T.condT rfl ?_
        refine T.seq ?_
        refine T.reg ?_
        refine TO.p (DP.as (by conv => lhs; whnf)) ?_
        refine TO.nil ?_
        refine TQ.nn ?_
        refine T.ret ?_
        refine TQ.nr ?_
        rw [learn_bad (.inr (.inr (.inl hg30)))]
        refine TQ.ret (vs := [.int .i64 (2 : Nat)]) (L' := [row 80 p (tabV q v), sl 40 3 v (l).length ((l).flatMap nearV)]) rfl ⟨rfl, rfl⟩ ⟨rfl, _, rfl⟩ (by (refine Ent.imp ?_; repeat first | exact Imp.refl _ | exact Imp.nil _ | (apply Imp.pull; focus ((repeat first | exact Del.head _ _ | apply Del.tail); done)) | (apply Imp.row; focus ((repeat first | exact Del.head _ _ | apply Del.tail); done)) | apply Imp.drop))
      · refine TO.onP rfl (DP.mv (by conv => lhs; whnf)) ?_
        refine TO.onP rfl ((by first | exact DP.geq (b := 4611686018427387904) rfl rfl | exact DP.geqI rfl rfl)) ?_
        refine TO.p (DP.pkF rfl (by conv => lhs; whnf)) ?_
        refine TO.nil ?_
        refine TQ.nn ?_
        refine T.condD rfl (fun hc0 => ?_) (fun hc0 => ?_)
        · refine T.seq ?_
          refine T.reg ?_
          refine TO.p (DP.as (by conv => lhs; whnf)) ?_
          refine TO.nil ?_
          refine TQ.nn ?_
          refine T.ret ?_
          refine TQ.nr ?_
          rw [learn_bad (.inr (.inr (.inr hc0)))]
          refine TQ.ret (vs := [.int .i64 (2 : Nat)]) (L' := [row 80 p (tabV q v), sl 40 3 v (l).length ((l).flatMap nearV)]) rfl ⟨rfl, rfl⟩ ⟨rfl, _, rfl⟩ (by (refine Ent.imp ?_; repeat first | exact Imp.refl _ | exact Imp.nil _ | (apply Imp.pull; focus ((repeat first | exact Del.head _ _ | apply Del.tail); done)) | (apply Imp.row; focus ((repeat first | exact Del.head _ _ | apply Del.tail); done)) | apply Imp.drop))
        · have hnb : ¬ (aloneA addr = false ∨ aloneE mac = false ∨ addr = q.addr ∨ 4611686018427387904 ≤ now) := by
            rintro (h | h | h | h)
            · rw [h] at hg17; cases hg17
            · rw [h] at hg22; cases hg22
            · exact hg30 h
            · exact hc0 h
          have htl := tidy_len l now
          have hq2 := hq.l2
          obtain ⟨l1, hl1⟩ : ∃ l1, l1 = tidyE now l := ⟨_, rfl⟩
          have hs1 : Srt l1 := by rw [hl1]; exact tidy_srt hs
          rw [← hl1] at htl
          refine T.skip ?_
          refine TQ.nn ?_
          refine T.seq ?_
          refine T.reg ?_
          refine TO.p (DP.mv (by conv => lhs; whnf)) ?_
          refine TO.p (DP.mv (by conv => lhs; whnf)) ?_
          refine TO.n (N.callF (rtidy_spec q l v p hlen now) Tryd.call47 ⟨rfl, rfl, trivial⟩ (by (repeat first | exact Pick.nil _ | (apply Pick.cons; focus ((repeat first | exact Del.head _ _ | apply Del.tail); done))))) ?_
          rintro u36 _ ⟨_, ⟨rfl, v2, rfl⟩, rfl⟩
          try simp only [List.cons_append, List.nil_append]
          refine TO.nil ?_
          refine TQ.nn ?_
          refine T.seq ?_
          rw [← hl1]
          refine T.reg ?_
          refine TO.p (DP.mv (by conv => lhs; whnf)) ?_
          refine TO.p (DP.mv (by conv => lhs; whnf)) ?_
          refine TO.p (DP.mv (by conv => lhs; whnf)) ?_
          refine TO.p (DP.mv (by conv => lhs; whnf)) ?_
          refine TO.p (DP.nck rfl) ?_
          refine TO.p (DP.fa 3 rfl Tryd.underlying80 rfl rfl sz31) ?_
          refine TO.d (D.ldR (v := .int .u64 q.life) rfl pl31 (by (repeat first | exact LMem.head _ _ | apply LMem.tail)) rfl) ?_
          refine TO.p ((by first | exact DP.add rfl rfl (l := 18446744073709551616) rfl (by omega) | exact DP.addW rfl rfl rfl (l := 18446744073709551616) rfl | exact DP.addX rfl rfl)) ?_
          refine TO.p (DP.bdL (vs := [(0, _), (1, _), (2, _)]) (us := nearV ⟨addr, mac, now + q.life⟩) ⟨rfl, rfl, rfl, rfl, rfl, rfl, trivial⟩ pc40 zr40 rfl) ?_
          refine TO.n (N.alA zr40) ?_
          rintro _ _ ⟨b9, rfl, rfl⟩
          refine TO.n0 (N.stA (vs := nearV ⟨addr, mac, now + q.life⟩) rfl rfl sz40 (by (repeat first | exact Put.head _ _ _ | apply Put.tail)) (by simp [nearV]) (nearV_one _) (by rfl)) ?_
          rintro _ _ ⟨rfl, rfl⟩
          rw [show setAll _ 0 (nearV ⟨addr, mac, now + q.life⟩) = nearV ⟨addr, mac, now + q.life⟩ from rfl]
          refine TO.nil ?_
          refine TQ.nn ?_
          refine T.seq ?_
          refine T.reg ?_
          refine TO.p (DP.mv (by conv => lhs; whnf)) ?_
          refine TO.p (DP.mv (by conv => lhs; whnf)) ?_
          refine TO.n (N.callF (rfind_spec q l1 v2 p (by omega) addr hs1) Tryd.call48 ⟨rfl, rfl, trivial⟩ (by (repeat first | exact Pick.nil _ | (apply Pick.cons; focus ((repeat first | exact Del.head _ _ | apply Del.tail); done))))) ?_
          rintro u48 _ ⟨_, ⟨rfl, rfl⟩, rfl⟩
          try simp only [List.cons_append, List.nil_append]
          refine TO.p (DP.as (by conv => lhs; whnf)) ?_
          refine TO.nil ?_
          refine TQ.nn ?_
          refine T.seq ?_
          refine T.seq ?_
          refine T.reg ?_
          refine TO.p (DP.mv (by conv => lhs; whnf)) ?_
          refine TO.p (DP.geqI rfl rfl) ?_
          refine TO.nil ?_
          refine TQ.nn ?_
          refine T.condD rfl (fun hc1 => ?_) (fun hc1 => ?_)
          · have hh := rfind_ge.1 hc1
            have hfi := rfind_at hh
            obtain ⟨sx, hsx, hsa⟩ := (has_pos hs1).1 hh
            have hpl : posE addr l1 < l1.length := by rcases Nat.lt_or_ge (posE addr l1) l1.length with h5 | h5; exact h5; rw [List.getElem?_eq_none h5] at hsx; cases hsx
            refine T.seq ?_
            refine T.drawL [7] mixed (by repeat first | exact Calm.rt | apply Calm.t | apply Calm.b | apply Calm.l | apply Calm.ct) ?_
            refine TR.p 0 rfl (by kernel_rfl) (DP.mv (by conv => lhs; whnf)) ?_
            refine TR.p 1 rfl (by kernel_rfl) (DP.nck rfl) ?_
            refine TR.p 2 rfl (by kernel_rfl) (DP.fa 4 rfl Tryd.underlying80 rfl rfl sz32) ?_
            refine TR.d 3 rfl (by kernel_rfl) (by kernel_rfl) (by (refine Ent.imp ?_; repeat first | exact Imp.refl _ | exact Imp.nil _ | (apply Imp.pull; focus ((repeat first | exact Del.head _ _ | apply Del.tail); done)) | (apply Imp.row; focus ((repeat first | exact Del.head _ _ | apply Del.tail); done)) | apply Imp.drop)) (D.ldR (v := v2) rfl pl32 (by (repeat first | exact LMem.head _ _ | apply LMem.tail)) rfl) ?_
            refine TR.p 4 rfl (by kernel_rfl) (DP.to (v' := .int .i64 ((posE addr l1 : Nat) : Int)) (DP.mv (by conv => lhs; whnf)) (by rw [hfi])) ?_
            refine TR.d 5 rfl (by kernel_rfl) (by kernel_rfl) (by (refine Ent.imp ?_; repeat first | exact Imp.refl _ | exact Imp.nil _ | (apply Imp.pull; focus ((repeat first | exact Del.head _ _ | apply Del.tail); done)) | (apply Imp.row; focus ((repeat first | exact Del.head _ _ | apply Del.tail); done)) | apply Imp.drop)) (D.ldRA (cs := nearV ⟨addr, mac, now + q.life⟩) rfl ag40 sz40 (by (repeat first | exact LMem.head _ _ | apply LMem.tail)) rfl) ?_
            refine TR.d 6 rfl (by kernel_rfl) (by kernel_rfl) (by (refine Ent.imp ?_; repeat first | exact Imp.refl _ | exact Imp.nil _ | (apply Imp.pull; focus ((repeat first | exact Del.head _ _ | apply Del.tail); done)) | (apply Imp.row; focus ((repeat first | exact Del.head _ _ | apply Del.tail); done)) | apply Imp.drop)) (D.iasO rfl rfl Tryd.underlying32 sz40 (by (repeat first | exact LMem.head _ _ | apply LMem.tail)) hpl) ?_
            refine TR.n0 7 (by kernel_rfl) rfl (N.stOA (us := nearV ⟨addr, mac, now + q.life⟩) (sz := 2) (by conv => lhs; whnf) rfl sz40 (by (repeat first | exact Put.head _ _ _ | apply Put.tail)) hpl (nearV_len _) (nearV_one _)) ?_
            rintro _ _ ⟨rfl, rfl⟩
            rw [flat_set nearV_len l1 _ hpl ⟨addr, mac, now + q.life⟩]
            refine ⟨.inl rfl, ?_⟩
            refine TR.done (by kernel_rfl) ?_
            refine TQ.nn ?_
            refine T.seq ?_
            refine T.reg ?_
            refine TO.p (DP.as (by conv => lhs; whnf)) ?_
            refine TO.nil ?_
            refine TQ.nn ?_
            refine T.ret ?_
            refine TQ.nr ?_
            rw [learn_set hnb (by rw [← hl1]; exact hh)]
            rw [← hl1]
            refine TQ.ret (vs := [.int .i64 (0 : Nat)]) (L' := [row 80 p (tabV q v2), sl 40 3 v2 ((l1.set (posE addr l1) ⟨addr, mac, now + q.life⟩)).length (((l1.set (posE addr l1) ⟨addr, mac, now + q.life⟩)).flatMap nearV)]) rfl ⟨rfl, rfl⟩ ⟨rfl, _, rfl⟩ (by simp only [List.length_set]; (refine Ent.imp ?_; repeat first | exact Imp.refl _ | exact Imp.nil _ | (apply Imp.pull; focus ((repeat first | exact Del.head _ _ | apply Del.tail); done)) | (apply Imp.row; focus ((repeat first | exact Del.head _ _ | apply Del.tail); done)) | apply Imp.drop))
          · have hh : hasE addr l1 = false := by rw [← Bool.not_eq_true]; exact fun h => hc1 (rfind_ge.2 h)
            have hhn : ¬ hasE addr (tidyE now l) = true := by rw [← hl1, hh]; decide
            refine T.skip ?_
            refine TQ.nn ?_
            refine T.seq ?_
            refine T.seq ?_
            refine T.drawL [] mixed (by repeat first | exact Calm.rt | apply Calm.t | apply Calm.b | apply Calm.l | apply Calm.ct) ?_
            refine TR.p 0 rfl (by kernel_rfl) (DP.mv (by conv => lhs; whnf)) ?_
            refine TR.p 1 rfl (by kernel_rfl) (DP.nck rfl) ?_
            refine TR.p 2 rfl (by kernel_rfl) (DP.fa 4 rfl Tryd.underlying80 rfl rfl sz32) ?_
            refine TR.d 3 rfl (by kernel_rfl) (by kernel_rfl) (by (refine Ent.imp ?_; repeat first | exact Imp.refl _ | exact Imp.nil _ | (apply Imp.pull; focus ((repeat first | exact Del.head _ _ | apply Del.tail); done)) | (apply Imp.row; focus ((repeat first | exact Del.head _ _ | apply Del.tail); done)) | apply Imp.drop)) (D.ldR (v := v2) rfl pl32 (by (repeat first | exact LMem.head _ _ | apply LMem.tail)) rfl) ?_
            refine TR.d 4 rfl (by kernel_rfl) (by kernel_rfl) (by (refine Ent.imp ?_; repeat first | exact Imp.refl _ | exact Imp.nil _ | (apply Imp.pull; focus ((repeat first | exact Del.head _ _ | apply Del.tail); done)) | (apply Imp.row; focus ((repeat first | exact Del.head _ _ | apply Del.tail); done)) | apply Imp.drop)) (D.lenO (by conv => lhs; whnf) Tryd.underlying32 (by (repeat first | exact LMem.head _ _ | apply LMem.tail))) ?_
            refine TR.p 5 rfl (by kernel_rfl) (DP.mv (by conv => lhs; whnf)) ?_
            refine TR.p 6 rfl (by kernel_rfl) (DP.nck rfl) ?_
            refine TR.p 7 rfl (by kernel_rfl) (DP.fa 2 rfl Tryd.underlying80 rfl rfl sz3) ?_
            refine TR.d 8 rfl (by kernel_rfl) (by kernel_rfl) (by (refine Ent.imp ?_; repeat first | exact Imp.refl _ | exact Imp.nil _ | (apply Imp.pull; focus ((repeat first | exact Del.head _ _ | apply Del.tail); done)) | (apply Imp.row; focus ((repeat first | exact Del.head _ _ | apply Del.tail); done)) | apply Imp.drop)) (D.ldR (v := .int .i64 q.most) rfl pl3 (by (repeat first | exact LMem.head _ _ | apply LMem.tail)) rfl) ?_
            refine TR.p 9 rfl (by kernel_rfl) ((by first | exact DP.geq rfl rfl | exact DP.geqI rfl rfl)) ?_
            refine TR.done (by kernel_rfl) ?_
            refine TQ.nn ?_
            refine T.condD rfl (fun hc2 => ?_) (fun hc2 => ?_)
            · refine T.seq ?_
              refine T.reg ?_
              refine TO.p (DP.as (by conv => lhs; whnf)) ?_
              refine TO.nil ?_
              refine TQ.nn ?_
              refine T.ret ?_
              refine TQ.nr ?_
              rw [learn_full hnb hhn (by rw [← hl1]; exact hc2)]
              rw [← hl1]
              refine TQ.ret (vs := [.int .i64 (6 : Nat)]) (L' := [row 80 p (tabV q v2), sl 40 3 v2 (l1).length ((l1).flatMap nearV)]) rfl ⟨rfl, rfl⟩ ⟨rfl, _, rfl⟩ (by (refine Ent.imp ?_; repeat first | exact Imp.refl _ | exact Imp.nil _ | (apply Imp.pull; focus ((repeat first | exact Del.head _ _ | apply Del.tail); done)) | (apply Imp.row; focus ((repeat first | exact Del.head _ _ | apply Del.tail); done)) | apply Imp.drop))
            · refine T.skip ?_
              refine TQ.nn ?_
              refine T.seq ?_
              refine T.reg ?_
              refine TO.p (DP.as (by conv => lhs; whnf)) ?_
              refine TO.nil ?_
              refine TQ.nn ?_
              refine T.seq ?_
              refine T.reg ?_
              refine TO.p (DP.as (by conv => lhs; whnf)) ?_
              refine TO.nil ?_
              refine TQ.nn ?_
              refine T.seq ?_
              refine T.seq ?_
              refine T.reg ?_
              refine TO.p (DP.as (by conv => lhs; whnf)) ?_
              refine TO.nil ?_
              refine TQ.nn ?_
              refine T.block ?_
              refine T.loop (S := Nat × Value × Bool) (0, .slice none 0 0, false) (fun ⟨k, w, d⟩ => [(0, .pointer (some ⟨p, 0, none⟩)), (1, .int .u32 addr), (9, .pointer (some ⟨b9, 0, none⟩)), (11, w), (12, .bool d), (13, .int .i64 (k : Nat))]) (fun ⟨k, w, d⟩ => row 40 b9 (nearV ⟨addr, mac, now + q.life⟩) :: row 80 p (tabV q v2) :: sl 40 3 v2 (l1).length ((l1).flatMap nearV) :: sl 40 3 w (insE l1 ⟨addr, mac, now + q.life⟩ k).length ((insE l1 ⟨addr, mac, now + q.life⟩ k).flatMap nearV) :: R) (fun ⟨k, w, d⟩ => k ≤ l1.length ∧ (d = true ↔ posE addr l1 < k)) (fun ⟨k, w, d⟩ => l1.length - k) ?_ ?_ ?_ ?_
              · (repeat first | exact trivial | refine ⟨rfl, ?_⟩)
              · exact ⟨Nat.zero_le _, by simp⟩
              · (dsimp only; rw [show insE l1 ⟨addr, mac, now + q.life⟩ 0 = [] from by unfold insE; rw [if_neg (Nat.not_lt_zero _)]; rfl]; refine Ent.imp (Imp.pull (by (repeat first | exact Del.head _ _ | apply Del.tail)) (Imp.pull (by (repeat first | exact Del.head _ _ | apply Del.tail)) (Imp.pull (by (repeat first | exact Del.head _ _ | apply Del.tail)) (Imp.slN (Imp.refl _))))))
              rintro ⟨k, w, d⟩ g ⟨hI, hD⟩
              try dsimp only
              refine T.seq ?_
              refine T.seq ?_
              refine T.reg ?_
              refine TO.p (DP.mv (by conv => lhs; whnf)) ?_
              refine TO.p (DP.mv (by conv => lhs; whnf)) ?_
              refine TO.p (DP.nck rfl) ?_
              refine TO.p (DP.fa 4 rfl Tryd.underlying80 rfl rfl sz32) ?_
              refine TO.d (D.ldR (v := v2) rfl pl32 (by (repeat first | exact LMem.head _ _ | apply LMem.tail)) rfl) ?_
              refine TO.d (D.lenO (by conv => lhs; whnf) Tryd.underlying32 (by (repeat first | exact LMem.head _ _ | apply LMem.tail))) ?_
              refine TO.p ((by first | exact DP.lss rfl rfl | exact DP.lssI rfl rfl)) ?_
              refine TO.nil ?_
              refine TQ.nn ?_
              refine T.condD rfl (fun hc3 => ?_) (fun hc3 => ?_)
              · obtain ⟨s, hsk⟩ := get_some (l := l1) (i := k) (by omega)
                have hil : (insE l1 ⟨addr, mac, now + q.life⟩ k).length ≤ l1.length + 1 := by unfold insE; split <;> simp <;> omega
                refine T.skip ?_
                refine TQ.nn ?_
                refine T.seq ?_
                refine T.block ?_
                refine T.seq ?_
                refine T.seq ?_
                refine T.reg ?_
                refine TO.p (DP.mv (by conv => lhs; whnf)) ?_
                refine TO.p (DP.not rfl) ?_
                refine TO.pb (DP.mv (by conv => lhs; whnf)) (fun hg79 => ?_) (fun hg79 => ?_)
                · have hd0 : ¬ posE addr l1 < k := by rw [← hD]; simpa using hg79
                  refine TO.onP rfl (DP.mv (by conv => lhs; whnf)) ?_
                  refine TO.onP rfl (DP.mv (by conv => lhs; whnf)) ?_
                  refine TO.onP rfl (DP.nck rfl) ?_
                  refine TO.onP rfl (DP.fa 4 rfl Tryd.underlying80 rfl rfl sz32) ?_
                  refine TO.onD rfl (D.ldR (v := v2) rfl pl32 (by (repeat first | exact LMem.head _ _ | apply LMem.tail)) rfl) ?_
                  refine TO.onP rfl (DP.mv (by conv => lhs; whnf)) ?_
                  refine TO.onD rfl (D.iasO (i := k) rfl rfl Tryd.underlying32 sz40 (by (repeat first | exact LMem.head _ _ | apply LMem.tail)) (by omega)) ?_
                  refine TO.onD rfl (D.faO 0 (i := k) (by conv => lhs; whnf) Tryd.underlying40 rfl rfl sz26 (by (repeat first | exact LMem.head _ _ | apply LMem.tail)) (by omega)) ?_
                  refine TO.onD rfl (D.ldOF (i := k) (u := .int .u32 s.a) (by conv => lhs; whnf) pl26 (by (repeat first | exact LMem.head _ _ | apply LMem.tail)) (flat_elem nearV_len hsk 0 _ rfl) (by omega)) ?_
                  refine TO.onP rfl ((by first | exact DP.lss rfl rfl | exact DP.lssI rfl rfl)) ?_
                  refine TO.p (DP.pkT rfl (by conv => lhs; whnf)) ?_
                  refine TO.nil ?_
                  refine TQ.nn ?_
                  refine T.condD rfl (fun hc4 => ?_) (fun hc4 => ?_)
                  · have hi1 : posE addr l1 = k ∧ insE l1 ⟨addr, mac, now + q.life⟩ (k + 1) = insE l1 ⟨addr, mac, now + q.life⟩ k ++ [⟨addr, mac, now + q.life⟩] ++ [s] := ins_one (n := ⟨addr, mac, now + q.life⟩) hd0 hsk hc4
                    have hie := hi1.2
                    refine T.seq ?_
                    refine T.reg ?_
                    refine TO.p (DP.mv (by conv => lhs; whnf)) ?_
                    refine TO.d (D.ldRA (cs := nearV ⟨addr, mac, now + q.life⟩) rfl ag40 sz40 (by (repeat first | exact LMem.head _ _ | apply LMem.tail)) rfl) ?_
                    refine TO.n (N.bsL (len := 1) (vs := [(0, _)]) (us := nearV ⟨addr, mac, now + q.life⟩) ⟨rfl, rfl, trivial⟩ Tryd.underlying32 sz40 zr40 rfl (by omega) rfl) ?_
                    rintro _ _ ⟨b93, rfl, rfl⟩
                    refine TO.n (N.app rfl rfl Tryd.underlying32 sz40 by40 zr40 rfl rfl (by (repeat first | exact Del.head _ _ | apply Del.tail)) (Src.sl (news := nearV ⟨addr, mac, now + q.life⟩) Tryd.underlying32 (by rfl) (by (repeat first | exact LMem.head _ _ | apply LMem.tail)) (ReadsN.cells (fun i v hv => by simpa using hv))) (nearV_one ⟨addr, mac, now + q.life⟩) (by omega)) ?_
                    rintro u94 _ rfl
                    refine TO.p (DP.as (by conv => lhs; whnf)) ?_
                    refine TO.nil ?_
                    refine TQ.nn ?_
                    refine T.reg ?_
                    refine TO.p (DP.as (by conv => lhs; whnf)) ?_
                    refine TO.nil ?_
                    refine TQ.nn ?_
                    refine T.reg ?_
                    refine TO.p (DP.mv (by conv => lhs; whnf)) ?_
                    refine TO.p (DP.mv (by conv => lhs; whnf)) ?_
                    refine TO.p (DP.nck rfl) ?_
                    refine TO.p (DP.fa 4 rfl Tryd.underlying80 rfl rfl sz32) ?_
                    refine TO.d (D.ldR (v := v2) rfl pl32 (by (repeat first | exact LMem.head _ _ | apply LMem.tail)) rfl) ?_
                    refine TO.p (DP.mv (by conv => lhs; whnf)) ?_
                    refine TO.d (D.iasO (i := k) rfl rfl Tryd.underlying32 sz40 (by (repeat first | exact LMem.head _ _ | apply LMem.tail)) (by omega)) ?_
                    refine TO.d (D.ldOA (i := k) (us := nearV s) (by conv => lhs; whnf) ag40 sz40 (by (repeat first | exact LMem.head _ _ | apply LMem.tail)) (by omega) (flat_elem nearV_len hsk) (nearV_len s)) ?_
                    refine TO.n (N.bsL (len := 1) (vs := [(0, _)]) (us := nearV s) ⟨rfl, rfl, trivial⟩ Tryd.underlying32 sz40 zr40 rfl (by omega) rfl) ?_
                    rintro _ _ ⟨b103, rfl, rfl⟩
                    refine TO.n (N.app rfl rfl Tryd.underlying32 sz40 by40 zr40 rfl rfl (by (repeat first | exact Del.head _ _ | apply Del.tail)) (Src.sl (news := nearV s) Tryd.underlying32 (by rfl) (by (repeat first | exact LMem.head _ _ | apply LMem.tail)) (ReadsN.cells (fun i v hv => by simpa using hv))) (nearV_one s) (by omega)) ?_
                    rintro u104 _ rfl
                    refine TO.p (DP.as (by conv => lhs; whnf)) ?_
                    refine TO.nil ?_
                    refine TQ.bn ?_
                    refine TQ.nn ?_
                    refine T.reg ?_
                    refine TO.p (DP.mv (by conv => lhs; whnf)) ?_
                    refine TO.p ((by first | exact DP.add (b := 1) rfl rfl (l := 9223372036854775808) rfl (by omega) | exact DP.addX rfl rfl)) ?_
                    refine TO.p (DP.as (by conv => lhs; whnf)) ?_
                    refine TO.nil ?_
                    refine TQ.round (k + 1, u104, true) rfl ?_ ?_ ?_ ?_
                    · (repeat first | exact trivial | refine ⟨rfl, ?_⟩)
                    · (refine ⟨by omega, ?_⟩; rw [hi1.1]; simp)
                    · (show l1.length - (k + 1) < l1.length - k; omega)
                    · (dsimp only; rw [hie]; simp only [List.length_append, List.flatMap_append, List.flatMap_singleton, List.length_singleton]; (refine Ent.imp ?_; repeat first | exact Imp.refl _ | exact Imp.nil _ | (apply Imp.pull; focus ((repeat first | exact Del.head _ _ | apply Del.tail); done)) | (apply Imp.row; focus ((repeat first | exact Del.head _ _ | apply Del.tail); done)) | apply Imp.drop))
                  · have hi2 : ¬ posE addr l1 < k + 1 ∧ insE l1 ⟨addr, mac, now + q.life⟩ (k + 1) = insE l1 ⟨addr, mac, now + q.life⟩ k ++ [s] := ins_two (n := ⟨addr, mac, now + q.life⟩) hs1 hh hd0 hsk hc4
                    have hie := hi2.2
                    refine T.skip ?_
                    refine TQ.nn ?_
                    refine T.reg ?_
                    refine TO.p (DP.mv (by conv => lhs; whnf)) ?_
                    refine TO.p (DP.mv (by conv => lhs; whnf)) ?_
                    refine TO.p (DP.nck rfl) ?_
                    refine TO.p (DP.fa 4 rfl Tryd.underlying80 rfl rfl sz32) ?_
                    refine TO.d (D.ldR (v := v2) rfl pl32 (by (repeat first | exact LMem.head _ _ | apply LMem.tail)) rfl) ?_
                    refine TO.p (DP.mv (by conv => lhs; whnf)) ?_
                    refine TO.d (D.iasO (i := k) rfl rfl Tryd.underlying32 sz40 (by (repeat first | exact LMem.head _ _ | apply LMem.tail)) (by omega)) ?_
                    refine TO.d (D.ldOA (i := k) (us := nearV s) (by conv => lhs; whnf) ag40 sz40 (by (repeat first | exact LMem.head _ _ | apply LMem.tail)) (by omega) (flat_elem nearV_len hsk) (nearV_len s)) ?_
                    refine TO.n (N.bsL (len := 1) (vs := [(0, _)]) (us := nearV s) ⟨rfl, rfl, trivial⟩ Tryd.underlying32 sz40 zr40 rfl (by omega) rfl) ?_
                    rintro _ _ ⟨b103, rfl, rfl⟩
                    refine TO.n (N.app rfl rfl Tryd.underlying32 sz40 by40 zr40 rfl rfl (by (repeat first | exact Del.head _ _ | apply Del.tail)) (Src.sl (news := nearV s) Tryd.underlying32 (by rfl) (by (repeat first | exact LMem.head _ _ | apply LMem.tail)) (ReadsN.cells (fun i v hv => by simpa using hv))) (nearV_one s) (by omega)) ?_
                    rintro u104 _ rfl
                    refine TO.p (DP.as (by conv => lhs; whnf)) ?_
                    refine TO.nil ?_
                    refine TQ.bn ?_
                    refine TQ.nn ?_
                    refine T.reg ?_
                    refine TO.p (DP.mv (by conv => lhs; whnf)) ?_
                    refine TO.p ((by first | exact DP.add (b := 1) rfl rfl (l := 9223372036854775808) rfl (by omega) | exact DP.addX rfl rfl)) ?_
                    refine TO.p (DP.as (by conv => lhs; whnf)) ?_
                    refine TO.nil ?_
                    refine TQ.round (k + 1, u104, d) rfl ?_ ?_ ?_ ?_
                    · (repeat first | exact trivial | refine ⟨rfl, ?_⟩)
                    · (refine ⟨by omega, ?_⟩; rw [hD]; have h6 : ¬ posE addr l1 < k + 1 := hi2.1; omega)
                    · (show l1.length - (k + 1) < l1.length - k; omega)
                    · (dsimp only; rw [hie]; simp only [List.length_append, List.flatMap_append, List.flatMap_singleton, List.length_singleton]; (refine Ent.imp ?_; repeat first | exact Imp.refl _ | exact Imp.nil _ | (apply Imp.pull; focus ((repeat first | exact Del.head _ _ | apply Del.tail); done)) | (apply Imp.row; focus ((repeat first | exact Del.head _ _ | apply Del.tail); done)) | apply Imp.drop))
                · have hpk : posE addr l1 < k := by rw [← hD]; simpa using hg79
                  have hie : insE l1 ⟨addr, mac, now + q.life⟩ (k + 1) = insE l1 ⟨addr, mac, now + q.life⟩ k ++ [s] := ins_three (n := ⟨addr, mac, now + q.life⟩) hpk hsk
                  refine TO.off rfl rfl ?_
                  refine TO.off rfl rfl ?_
                  refine TO.off rfl rfl ?_
                  refine TO.off rfl rfl ?_
                  refine TO.off rfl rfl ?_
                  refine TO.off rfl rfl ?_
                  refine TO.off rfl rfl ?_
                  refine TO.off rfl rfl ?_
                  refine TO.off rfl rfl ?_
                  refine TO.off rfl rfl ?_
                  refine TO.p (DP.pkF rfl (by conv => lhs; whnf)) ?_
                  refine TO.nil ?_
                  refine TQ.nn ?_
                  refine T.condF rfl ?_
                  refine T.skip ?_
                  refine TQ.nn ?_
                  refine T.reg ?_
                  refine TO.p (DP.mv (by conv => lhs; whnf)) ?_
                  refine TO.p (DP.mv (by conv => lhs; whnf)) ?_
                  refine TO.p (DP.nck rfl) ?_
                  refine TO.p (DP.fa 4 rfl Tryd.underlying80 rfl rfl sz32) ?_
                  refine TO.d (D.ldR (v := v2) rfl pl32 (by (repeat first | exact LMem.head _ _ | apply LMem.tail)) rfl) ?_
                  refine TO.p (DP.mv (by conv => lhs; whnf)) ?_
                  refine TO.d (D.iasO (i := k) rfl rfl Tryd.underlying32 sz40 (by (repeat first | exact LMem.head _ _ | apply LMem.tail)) (by omega)) ?_
                  refine TO.d (D.ldOA (i := k) (us := nearV s) (by conv => lhs; whnf) ag40 sz40 (by (repeat first | exact LMem.head _ _ | apply LMem.tail)) (by omega) (flat_elem nearV_len hsk) (nearV_len s)) ?_
                  refine TO.n (N.bsL (len := 1) (vs := [(0, _)]) (us := nearV s) ⟨rfl, rfl, trivial⟩ Tryd.underlying32 sz40 zr40 rfl (by omega) rfl) ?_
                  rintro _ _ ⟨b103, rfl, rfl⟩
                  refine TO.n (N.app rfl rfl Tryd.underlying32 sz40 by40 zr40 rfl rfl (by (repeat first | exact Del.head _ _ | apply Del.tail)) (Src.sl (news := nearV s) Tryd.underlying32 (by rfl) (by (repeat first | exact LMem.head _ _ | apply LMem.tail)) (ReadsN.cells (fun i v hv => by simpa using hv))) (nearV_one s) (by omega)) ?_
                  rintro u104 _ rfl
                  refine TO.p (DP.as (by conv => lhs; whnf)) ?_
                  refine TO.nil ?_
                  refine TQ.bn ?_
                  refine TQ.nn ?_
                  refine T.reg ?_
                  refine TO.p (DP.mv (by conv => lhs; whnf)) ?_
                  refine TO.p ((by first | exact DP.add (b := 1) rfl rfl (l := 9223372036854775808) rfl (by omega) | exact DP.addX rfl rfl)) ?_
                  refine TO.p (DP.as (by conv => lhs; whnf)) ?_
                  refine TO.nil ?_
                  refine TQ.round (k + 1, u104, d) rfl ?_ ?_ ?_ ?_
                  · (repeat first | exact trivial | refine ⟨rfl, ?_⟩)
                  · (refine ⟨by omega, ?_⟩; rw [hD]; have h6 : posE addr l1 < k := hpk; omega)
                  · (show l1.length - (k + 1) < l1.length - k; omega)
                  · (dsimp only; rw [hie]; simp only [List.length_append, List.flatMap_append, List.flatMap_singleton, List.length_singleton]; (refine Ent.imp ?_; repeat first | exact Imp.refl _ | exact Imp.nil _ | (apply Imp.pull; focus ((repeat first | exact Del.head _ _ | apply Del.tail); done)) | (apply Imp.row; focus ((repeat first | exact Del.head _ _ | apply Del.tail); done)) | apply Imp.drop))
              · obtain rfl : k = l1.length := by omega
                have hpl := pos_le addr l1
                have hil : (insE l1 ⟨addr, mac, now + q.life⟩ l1.length).length ≤ l1.length + 1 := by unfold insE; split <;> simp <;> omega
                refine T.exit ?_
                refine TQ.ne ?_
                refine TQ.le ?_
                refine TQ.be ?_
                refine TQ.nn ?_
                refine T.seq ?_
                refine T.seq ?_
                refine T.reg ?_
                refine TO.p (DP.mv (by conv => lhs; whnf)) ?_
                refine TO.p (DP.not rfl) ?_
                refine TO.nil ?_
                refine TQ.nn ?_
                refine T.condB rfl (fun hc5 => ?_) (fun hc5 => ?_)
                · have hie : insE l1 ⟨addr, mac, now + q.life⟩ l1.length ++ [⟨addr, mac, now + q.life⟩] = l1.take (posE addr l1) ++ ⟨addr, mac, now + q.life⟩ :: l1.drop (posE addr l1) := ins_end2 (n := ⟨addr, mac, now + q.life⟩) (by show ¬ posE addr l1 < l1.length; rw [← hD]; simpa using hc5)
                  refine T.reg ?_
                  refine TO.p (DP.mv (by conv => lhs; whnf)) ?_
                  refine TO.d (D.ldRA (cs := nearV ⟨addr, mac, now + q.life⟩) rfl ag40 sz40 (by (repeat first | exact LMem.head _ _ | apply LMem.tail)) rfl) ?_
                  refine TO.n (N.bsL (len := 1) (vs := [(0, _)]) (us := nearV ⟨addr, mac, now + q.life⟩) ⟨rfl, rfl, trivial⟩ Tryd.underlying32 sz40 zr40 rfl (by omega) rfl) ?_
                  rintro _ _ ⟨b109, rfl, rfl⟩
                  refine TO.n (N.app rfl rfl Tryd.underlying32 sz40 by40 zr40 rfl rfl (by (repeat first | exact Del.head _ _ | apply Del.tail)) (Src.sl (news := nearV ⟨addr, mac, now + q.life⟩) Tryd.underlying32 (by rfl) (by (repeat first | exact LMem.head _ _ | apply LMem.tail)) (ReadsN.cells (fun i v hv => by simpa using hv))) (nearV_one ⟨addr, mac, now + q.life⟩) (by omega)) ?_
                  rintro u110 _ rfl
                  refine TO.p (DP.as (by conv => lhs; whnf)) ?_
                  refine TO.nil ?_
                  refine TQ.nn ?_
                  refine T.seq ?_
                  refine T.reg ?_
                  refine TO.p (DP.mv (by conv => lhs; whnf)) ?_
                  refine TO.p (DP.mv (by conv => lhs; whnf)) ?_
                  refine TO.p (DP.nck rfl) ?_
                  refine TO.p (DP.fa 4 rfl Tryd.underlying80 rfl rfl sz32) ?_
                  refine TO.n0 (N.stS rfl rfl sz32 (by (repeat first | exact LMem.head _ _ | apply LMem.tail)) (by (repeat first | exact Put.head _ _ _ | apply Put.tail)) (by simp [tabV])) ?_
                  rintro _ _ ⟨rfl, rfl⟩
                  refine TO.nil ?_
                  refine TQ.nn ?_
                  refine T.seq ?_
                  refine T.reg ?_
                  refine TO.p (DP.as (by conv => lhs; whnf)) ?_
                  refine TO.nil ?_
                  refine TQ.nn ?_
                  refine T.ret ?_
                  rw [learn_put hnb hhn (by rw [← hl1]; exact hc2)]
                  rw [← hl1, ← hie]
                  refine TQ.ret (vs := [.int .i64 (0 : Nat)]) (L' := [row 80 p (tabV q u110), sl 40 3 u110 ((insE l1 ⟨addr, mac, now + q.life⟩ l1.length ++ [(⟨addr, mac, now + q.life⟩ : Nr)])).length (((insE l1 ⟨addr, mac, now + q.life⟩ l1.length ++ [(⟨addr, mac, now + q.life⟩ : Nr)])).flatMap nearV)]) rfl ⟨rfl, rfl⟩ ⟨rfl, _, rfl⟩ (by (try simp only [List.length_append, List.flatMap_append, List.flatMap_singleton, List.length_singleton]); (refine Ent.imp ?_; repeat first | exact Imp.refl _ | exact Imp.nil _ | (apply Imp.pull; focus ((repeat first | exact Del.head _ _ | apply Del.tail); done)) | (apply Imp.row; focus ((repeat first | exact Del.head _ _ | apply Del.tail); done)) | apply Imp.drop))
                · have hie : insE l1 ⟨addr, mac, now + q.life⟩ l1.length = l1.take (posE addr l1) ++ ⟨addr, mac, now + q.life⟩ :: l1.drop (posE addr l1) := ins_end1 (n := ⟨addr, mac, now + q.life⟩) (by show posE addr l1 < l1.length; rw [← hD]; simpa using hc5)
                  refine T.skip ?_
                  refine TQ.nn ?_
                  refine T.seq ?_
                  refine T.reg ?_
                  refine TO.p (DP.mv (by conv => lhs; whnf)) ?_
                  refine TO.p (DP.mv (by conv => lhs; whnf)) ?_
                  refine TO.p (DP.nck rfl) ?_
                  refine TO.p (DP.fa 4 rfl Tryd.underlying80 rfl rfl sz32) ?_
                  refine TO.n0 (N.stS rfl rfl sz32 (by (repeat first | exact LMem.head _ _ | apply LMem.tail)) (by (repeat first | exact Put.head _ _ _ | apply Put.tail)) (by simp [tabV])) ?_
                  rintro _ _ ⟨rfl, rfl⟩
                  refine TO.nil ?_
                  refine TQ.nn ?_
                  refine T.seq ?_
                  refine T.reg ?_
                  refine TO.p (DP.as (by conv => lhs; whnf)) ?_
                  refine TO.nil ?_
                  refine TQ.nn ?_
                  refine T.ret ?_
                  rw [learn_put hnb hhn (by rw [← hl1]; exact hc2)]
                  rw [← hl1, ← hie]
                  refine TQ.ret (vs := [.int .i64 (0 : Nat)]) (L' := [row 80 p (tabV q w), sl 40 3 w ((insE l1 ⟨addr, mac, now + q.life⟩ l1.length)).length (((insE l1 ⟨addr, mac, now + q.life⟩ l1.length)).flatMap nearV)]) rfl ⟨rfl, rfl⟩ ⟨rfl, _, rfl⟩ (by (try simp only [List.length_append, List.flatMap_append, List.flatMap_singleton, List.length_singleton]); (refine Ent.imp ?_; repeat first | exact Imp.refl _ | exact Imp.nil _ | (apply Imp.pull; focus ((repeat first | exact Del.head _ _ | apply Del.tail); done)) | (apply Imp.row; focus ((repeat first | exact Del.head _ _ | apply Del.tail); done)) | apply Imp.drop))
end Go.Proofs.YtbandaebilkkkaaDoor
