/- Lemmas for the proofs of this seat: no statement of the seat is claimed here. -/
import Derived.Test.YtbandaebilkkkaaDoorK8
set_option linter.all false
namespace Go.Proofs.YtbandaebilkkkaaDoor
open Go Pw
set_option maxRecDepth 20000
set_option maxHeartbeats 4000000
theorem ag64 : aggT Tryd.prog 64 = true := by kernel_rfl
theorem pc64 : placesOf Tryd.prog 64 = some [(0, 1), (1, 1), (2, 1), (3, 1), (4, 1)] := by kernel_rfl
theorem sz3 : Tryd.prog.cellsOf 3 = 0 + 1 := by kernel_rfl
theorem sz64 : Tryd.prog.cellsOf 64 = 4 + 1 := by kernel_rfl
theorem zr64 : Tryd.prog.zeroOf 64 = some (.agg #[.string ⟨#[]⟩, .int .u32 0, .int .i64 0, .int .u64 0, .slice none 0 0]) := by kernel_rfl

def newOk (mac : List UInt8) (addr : Nat) (most : Int) (life : Nat) : Prop := aloneE mac = true ∧ aloneA addr = true ∧ 1 ≤ most ∧ most ≤ 64 ∧ 1 ≤ life ∧ life ≤ 4294967296
def badL (q : Tb) (addr : Nat) (mac : List UInt8) (now : Nat) : Prop := aloneA addr = false ∨ aloneE mac = false ∨ addr = q.addr ∨ 4611686018427387904 ≤ now
theorem new_spec (mac : List UInt8) (addr : Nat) (most : Int) (life : Nat) (hm : mac.length ≤ 1048576) (ha : addr < 4294967296) :
    Sat Tryd.prog 10 [str mac, .int .u32 addr, .int .i64 most, .int .u64 life] [] (fun u L' => (newOk mac addr most life ∧ ∃ p, u = .tuple #[.pointer (some ⟨p, 0, none⟩), .int .i64 (0 : Nat)] ∧ L' = [row 64 p (tabV (⟨mac, addr, most.toNat, life⟩ : Tb) (.slice none 0 0)), sl 40 3 (.slice none 0 0) ([] : List Nr).length (([] : List Nr).flatMap nearV)]) ∨ (¬ newOk mac addr most life ∧ u = .tuple #[.pointer none, .int .i64 (2 : Nat)] ∧ L' = [])) := by
  refine Sat.enter Tryd.func10 rfl Tryd.ntmps10 rfl (fun c R => ?_)
  try simp only [List.cons_append, List.nil_append]
  refine T.seq ?_
  refine T.reg ?_
  refine TO.p (DP.as (by conv => lhs; whnf)) ?_
  refine TO.p (DP.as (by conv => lhs; whnf)) ?_
  refine TO.nil ?_
  refine TQ.nn ?_
  refine T.seq ?_
  refine T.seq ?_
  refine T.reg ?_
  refine TO.p (DP.mv (by conv => lhs; whnf)) ?_
  refine TO.n (N.callF (alone_spec mac hm) Tryd.call24 ⟨rfl, trivial⟩ (by (repeat first | exact Pick.nil _ | (apply Pick.cons; focus ((repeat first | exact Del.head _ _ | apply Del.tail); done))))) ?_
  rintro u11 _ ⟨_, ⟨rfl, rfl⟩, rfl⟩
  try simp only [List.cons_append, List.nil_append]
  refine TO.p (DP.not rfl) ?_
  refine TO.pb (DP.mv (by conv => lhs; whnf)) (fun hg13 => ?_) (fun hg13 => ?_)
  · refine TO.off rfl rfl ?_
    refine TO.off rfl rfl ?_
    refine TO.off rfl rfl ?_
    refine TO.p (DP.pkT rfl (by conv => lhs; whnf)) ?_
    refine TO.p (DP.mv (by conv => lhs; whnf)) ?_
    refine TO.off rfl rfl ?_
    refine TO.off rfl rfl ?_
    refine TO.p (DP.pkT rfl (by conv => lhs; whnf)) ?_
    refine TO.p (DP.mv (by conv => lhs; whnf)) ?_
    refine TO.off rfl rfl ?_
    refine TO.off rfl rfl ?_
    refine TO.p (DP.pkT rfl (by conv => lhs; whnf)) ?_
    refine TO.p (DP.mv (by conv => lhs; whnf)) ?_
    refine TO.off rfl rfl ?_
    refine TO.off rfl rfl ?_
    refine TO.p (DP.pkT rfl (by conv => lhs; whnf)) ?_
    refine TO.p (DP.mv (by conv => lhs; whnf)) ?_
    refine TO.off rfl rfl ?_
    refine TO.off rfl rfl ?_
    refine TO.p (DP.pkT rfl (by conv => lhs; whnf)) ?_
    refine TO.nil ?_
    refine TQ.nn ?_
    refine T.condT rfl ?_
    refine T.seq ?_
    refine T.reg ?_
    refine TO.p (DP.as (by conv => lhs; whnf)) ?_
    refine TO.p (DP.as (by conv => lhs; whnf)) ?_
    refine TO.nil ?_
    refine TQ.nn ?_
    refine T.ret ?_
    refine TQ.nr ?_
    refine TQ.ret (vs := [.pointer none, .int .i64 (2 : Nat)]) (L' := []) rfl ⟨rfl, rfl, rfl⟩ (.inr ⟨fun h => by obtain ⟨h1, h2, h3, h4, h5, h6⟩ := h; first | omega | (rw [h1] at hg13; exact absurd hg13 (by decide)) | (rw [h2] at hg18; exact absurd hg18 (by decide)), rfl, rfl⟩) (by (refine Ent.imp ?_; repeat first | exact Imp.refl _ | exact Imp.nil _ | (apply Imp.pull; focus ((repeat first | exact Del.head _ _ | apply Del.tail); done)) | (apply Imp.row; focus ((repeat first | exact Del.head _ _ | apply Del.tail); done)) | apply Imp.drop))
  · refine TO.onP rfl (DP.mv (by conv => lhs; whnf)) ?_
    refine TO.on rfl (N.callF (aloneA_spec addr ha) Tryd.call25 ⟨rfl, trivial⟩ (by (repeat first | exact Pick.nil _ | (apply Pick.cons; focus ((repeat first | exact Del.head _ _ | apply Del.tail); done))))) ?_
    rintro u15 _ ⟨_, ⟨rfl, rfl⟩, rfl⟩
    try simp only [List.cons_append, List.nil_append]
    refine TO.onP rfl (DP.not rfl) ?_
    refine TO.p (DP.pkF rfl (by conv => lhs; whnf)) ?_
    refine TO.pb (DP.mv (by conv => lhs; whnf)) (fun hg18 => ?_) (fun hg18 => ?_)
    · refine TO.off rfl rfl ?_
      refine TO.off rfl rfl ?_
      refine TO.p (DP.pkT rfl (by conv => lhs; whnf)) ?_
      refine TO.p (DP.mv (by conv => lhs; whnf)) ?_
      refine TO.off rfl rfl ?_
      refine TO.off rfl rfl ?_
      refine TO.p (DP.pkT rfl (by conv => lhs; whnf)) ?_
      refine TO.p (DP.mv (by conv => lhs; whnf)) ?_
      refine TO.off rfl rfl ?_
      refine TO.off rfl rfl ?_
      refine TO.p (DP.pkT rfl (by conv => lhs; whnf)) ?_
      refine TO.p (DP.mv (by conv => lhs; whnf)) ?_
      refine TO.off rfl rfl ?_
      refine TO.off rfl rfl ?_
      refine TO.p (DP.pkT rfl (by conv => lhs; whnf)) ?_
      refine TO.nil ?_
      refine TQ.nn ?_
      refine T.condT rfl ?_
      refine T.seq ?_
      refine T.reg ?_
      refine TO.p (DP.as (by conv => lhs; whnf)) ?_
      refine TO.p (DP.as (by conv => lhs; whnf)) ?_
      refine TO.nil ?_
      refine TQ.nn ?_
      refine T.ret ?_
      refine TQ.nr ?_
      refine TQ.ret (vs := [.pointer none, .int .i64 (2 : Nat)]) (L' := []) rfl ⟨rfl, rfl, rfl⟩ (.inr ⟨fun h => by obtain ⟨h1, h2, h3, h4, h5, h6⟩ := h; first | omega | (rw [h1] at hg13; exact absurd hg13 (by decide)) | (rw [h2] at hg18; exact absurd hg18 (by decide)), rfl, rfl⟩) (by (refine Ent.imp ?_; repeat first | exact Imp.refl _ | exact Imp.nil _ | (apply Imp.pull; focus ((repeat first | exact Del.head _ _ | apply Del.tail); done)) | (apply Imp.row; focus ((repeat first | exact Del.head _ _ | apply Del.tail); done)) | apply Imp.drop))
    · refine TO.onP rfl (DP.mv (by conv => lhs; whnf)) ?_
      refine TO.onP rfl (DP.lssI rfl rfl) ?_
      refine TO.p (DP.pkF rfl (by conv => lhs; whnf)) ?_
      refine TO.pB (DP.mv (by conv => lhs; whnf)) (fun hg22 => ?_) (fun hg22 => ?_)
      · refine TO.off rfl rfl ?_
        refine TO.off rfl rfl ?_
        refine TO.p (DP.pkT rfl (by conv => lhs; whnf)) ?_
        refine TO.p (DP.mv (by conv => lhs; whnf)) ?_
        refine TO.off rfl rfl ?_
        refine TO.off rfl rfl ?_
        refine TO.p (DP.pkT rfl (by conv => lhs; whnf)) ?_
        refine TO.p (DP.mv (by conv => lhs; whnf)) ?_
        refine TO.off rfl rfl ?_
        refine TO.off rfl rfl ?_
        refine TO.p (DP.pkT rfl (by conv => lhs; whnf)) ?_
        refine TO.nil ?_
        refine TQ.nn ?_
        refine T.condT rfl ?_
        refine T.seq ?_
        refine T.reg ?_
        refine TO.p (DP.as (by conv => lhs; whnf)) ?_
        refine TO.p (DP.as (by conv => lhs; whnf)) ?_
        refine TO.nil ?_
        refine TQ.nn ?_
        refine T.ret ?_
        refine TQ.nr ?_
        refine TQ.ret (vs := [.pointer none, .int .i64 (2 : Nat)]) (L' := []) rfl ⟨rfl, rfl, rfl⟩ (.inr ⟨fun h => by obtain ⟨h1, h2, h3, h4, h5, h6⟩ := h; first | omega | (rw [h1] at hg13; exact absurd hg13 (by decide)) | (rw [h2] at hg18; exact absurd hg18 (by decide)), rfl, rfl⟩) (by (refine Ent.imp ?_; repeat first | exact Imp.refl _ | exact Imp.nil _ | (apply Imp.pull; focus ((repeat first | exact Del.head _ _ | apply Del.tail); done)) | (apply Imp.row; focus ((repeat first | exact Del.head _ _ | apply Del.tail); done)) | apply Imp.drop))
      · refine TO.onP rfl (DP.mv (by conv => lhs; whnf)) ?_
        refine TO.onP rfl (DP.gtrI rfl rfl) ?_
        refine TO.p (DP.pkF rfl (by conv => lhs; whnf)) ?_
        refine TO.pB (DP.mv (by conv => lhs; whnf)) (fun hg26 => ?_) (fun hg26 => ?_)
        · refine TO.off rfl rfl ?_
          refine TO.off rfl rfl ?_
          refine TO.p (DP.pkT rfl (by conv => lhs; whnf)) ?_
          refine TO.p (DP.mv (by conv => lhs; whnf)) ?_
          refine TO.off rfl rfl ?_
          refine TO.off rfl rfl ?_
          refine TO.p (DP.pkT rfl (by conv => lhs; whnf)) ?_
          refine TO.nil ?_
          refine TQ.nn ?_
          refine T.condT rfl ?_
          refine T.seq ?_
          refine T.reg ?_
          refine TO.p (DP.as (by conv => lhs; whnf)) ?_
          refine TO.p (DP.as (by conv => lhs; whnf)) ?_
          refine TO.nil ?_
          refine TQ.nn ?_
          refine T.ret ?_
          refine TQ.nr ?_
          refine TQ.ret (vs := [.pointer none, .int .i64 (2 : Nat)]) (L' := []) rfl ⟨rfl, rfl, rfl⟩ (.inr ⟨fun h => by obtain ⟨h1, h2, h3, h4, h5, h6⟩ := h; first | omega | (rw [h1] at hg13; exact absurd hg13 (by decide)) | (rw [h2] at hg18; exact absurd hg18 (by decide)), rfl, rfl⟩) (by (refine Ent.imp ?_; repeat first | exact Imp.refl _ | exact Imp.nil _ | (apply Imp.pull; focus ((repeat first | exact Del.head _ _ | apply Del.tail); done)) | (apply Imp.row; focus ((repeat first | exact Del.head _ _ | apply Del.tail); done)) | apply Imp.drop))
        · refine TO.onP rfl (DP.mv (by conv => lhs; whnf)) ?_
          refine TO.onP rfl ((by first | exact DP.lss (b := 1) rfl rfl | exact DP.lssI rfl rfl)) ?_
          refine TO.p (DP.pkF rfl (by conv => lhs; whnf)) ?_
          refine TO.pB (DP.mv (by conv => lhs; whnf)) (fun hg30 => ?_) (fun hg30 => ?_)
          · refine TO.off rfl rfl ?_
            refine TO.off rfl rfl ?_
            refine TO.p (DP.pkT rfl (by conv => lhs; whnf)) ?_
            refine TO.nil ?_
            refine TQ.nn ?_
            refine T.condT rfl ?_
            refine T.seq ?_
            refine T.reg ?_
            refine TO.p (DP.as (by conv => lhs; whnf)) ?_
            refine TO.p (DP.as (by conv => lhs; whnf)) ?_
            refine TO.nil ?_
            refine TQ.nn ?_
            refine T.ret ?_
            refine TQ.nr ?_
            refine TQ.ret (vs := [.pointer none, .int .i64 (2 : Nat)]) (L' := []) rfl ⟨rfl, rfl, rfl⟩ (.inr ⟨fun h => by obtain ⟨h1, h2, h3, h4, h5, h6⟩ := h; first | omega | (rw [h1] at hg13; exact absurd hg13 (by decide)) | (rw [h2] at hg18; exact absurd hg18 (by decide)), rfl, rfl⟩) (by (refine Ent.imp ?_; repeat first | exact Imp.refl _ | exact Imp.nil _ | (apply Imp.pull; focus ((repeat first | exact Del.head _ _ | apply Del.tail); done)) | (apply Imp.row; focus ((repeat first | exact Del.head _ _ | apply Del.tail); done)) | apply Imp.drop))
          · refine TO.onP rfl (DP.mv (by conv => lhs; whnf)) ?_
            refine TO.onP rfl ((by first | exact DP.gtr (b := 4294967296) rfl rfl | exact DP.gtrI rfl rfl)) ?_
            refine TO.p (DP.pkF rfl (by conv => lhs; whnf)) ?_
            refine TO.nil ?_
            refine TQ.nn ?_
            refine T.condD rfl (fun hc0 => ?_) (fun hc0 => ?_)
            · refine T.seq ?_
              refine T.reg ?_
              refine TO.p (DP.as (by conv => lhs; whnf)) ?_
              refine TO.p (DP.as (by conv => lhs; whnf)) ?_
              refine TO.nil ?_
              refine TQ.nn ?_
              refine T.ret ?_
              refine TQ.nr ?_
              refine TQ.ret (vs := [.pointer none, .int .i64 (2 : Nat)]) (L' := []) rfl ⟨rfl, rfl, rfl⟩ (.inr ⟨fun h => by obtain ⟨h1, h2, h3, h4, h5, h6⟩ := h; first | omega | (rw [h1] at hg13; exact absurd hg13 (by decide)) | (rw [h2] at hg18; exact absurd hg18 (by decide)), rfl, rfl⟩) (by (refine Ent.imp ?_; repeat first | exact Imp.refl _ | exact Imp.nil _ | (apply Imp.pull; focus ((repeat first | exact Del.head _ _ | apply Del.tail); done)) | (apply Imp.row; focus ((repeat first | exact Del.head _ _ | apply Del.tail); done)) | apply Imp.drop))
            · have hok : newOk mac addr most life := ⟨by simpa using hg13, by simpa using hg18, by omega, by omega, by omega, by omega⟩
              obtain ⟨m, rfl⟩ : ∃ m : Nat, most = m := ⟨most.toNat, by omega⟩
              refine T.skip ?_
              refine TQ.nn ?_
              refine T.seq ?_
              refine T.reg ?_
              refine TO.p (DP.mv (by conv => lhs; whnf)) ?_
              refine TO.p (DP.mv (by conv => lhs; whnf)) ?_
              refine TO.p (DP.mv (by conv => lhs; whnf)) ?_
              refine TO.p (DP.mv (by conv => lhs; whnf)) ?_
              refine TO.p (DP.bdL (vs := [(0, _), (1, _), (2, _), (3, _)]) (us := tabV ⟨mac, addr, m, life⟩ (.slice none 0 0)) ⟨rfl, rfl, rfl, rfl, rfl, rfl, rfl, rfl, trivial⟩ pc64 zr64 rfl) ?_
              refine TO.n (N.bxA (cs := tabV ⟨mac, addr, m, life⟩ (.slice none 0 0)) rfl) ?_
              rintro _ _ ⟨b39, rfl, rfl⟩
              refine TO.p (DP.as (by conv => lhs; whnf)) ?_
              refine TO.p (DP.as (by conv => lhs; whnf)) ?_
              refine TO.nil ?_
              refine TQ.nn ?_
              refine T.ret ?_
              refine TQ.ret (vs := [.pointer (some ⟨b39, 0, none⟩), .int .i64 (0 : Nat)]) (L' := [row 64 b39 (tabV (⟨mac, addr, m, life⟩ : Tb) (.slice none 0 0)), sl 40 3 (.slice none 0 0) ([] : List Nr).length (([] : List Nr).flatMap nearV)]) rfl ⟨rfl, rfl, rfl⟩ (.inl ⟨hok, _, rfl, rfl⟩) (by simp only [List.length_nil, List.flatMap_nil, List.cons_append, List.nil_append]; refine Ent.imp (Imp.pull (Del.head _ _) (Imp.slN (Imp.refl _))))

theorem learn_spec (q : Tb) (l : List Nr) (v : Value) (p : Nat) (hlen : l.length ≤ 1048576) (addr : Nat) (mac : List UInt8) (now : Nat) (hq : q.ok) (hs : Srt l) (ha : addr < 4294967296) (hm : mac.length ≤ 1048576) :
    Sat Tryd.prog 12 [.pointer (some ⟨p, 0, none⟩), .int .u32 addr, str mac, .int .u64 now] [row 64 p (tabV q v), sl 40 3 v (l).length ((l).flatMap nearV)] (fun u L' => u = .int .i64 ((learnE q l addr mac now).2 : Nat) ∧ ∃ v2, L' = [row 64 p (tabV q v2), sl 40 3 v2 ((learnE q l addr mac now).1).length (((learnE q l addr mac now).1).flatMap nearV)]) := by
  refine Sat.enter Tryd.func12 rfl Tryd.ntmps12 rfl (fun c R => ?_)
  try simp only [List.cons_append, List.nil_append]
  refine T.seq ?_
  refine T.reg ?_
  refine TO.p (DP.as (by conv => lhs; whnf)) ?_
  refine TO.nil ?_
  refine TQ.nn ?_
  refine T.seq ?_
  refine T.block ?_
  refine T.seq ?_
  refine T.reg ?_
  refine TO.p (DP.mv (by conv => lhs; whnf)) ?_
  refine TO.p (DP.peqS rfl rfl Tryd.underlying27) ?_
  refine TO.p (DP.as (by conv => lhs; whnf)) ?_
  refine TO.nil ?_
  refine TQ.nn ?_
  refine T.condF rfl ?_
  refine T.seq ?_
  refine T.seq ?_
  refine T.reg ?_
  refine TO.p (DP.mv (by conv => lhs; whnf)) ?_
  refine TO.n (N.callF (aloneA_spec addr ha) Tryd.call25 ⟨rfl, trivial⟩ (by (repeat first | exact Pick.nil _ | (apply Pick.cons; focus ((repeat first | exact Del.head _ _ | apply Del.tail); done))))) ?_
  rintro u17 _ ⟨_, ⟨rfl, rfl⟩, rfl⟩
  try simp only [List.cons_append, List.nil_append]
  refine TO.p (DP.not rfl) ?_
  refine TO.p (DP.as (by conv => lhs; whnf)) ?_
  refine TO.nil ?_
  refine TQ.nn ?_
  refine T.condB rfl (fun hc1 => ?_) (fun hc1 => ?_)
  · refine T.skip ?_
    refine TQ.nn ?_
    refine T.condB rfl (fun hc4 => ?_) (fun hc4 => ?_)
    · refine T.seq ?_
      refine T.reg ?_
      refine TO.p (DP.as (by conv => lhs; whnf)) ?_
      refine TO.nil ?_
      refine TQ.nn ?_
      refine T.ret ?_
      refine TQ.br ?_
      refine TQ.nr ?_
      rw [learn_bad (.inl (by simpa using hc1))]
      refine TQ.ret (vs := [.int .i64 (2 : Nat)]) (L' := [row 64 p (tabV q v), sl 40 3 v (l).length ((l).flatMap nearV)]) rfl ⟨rfl, rfl⟩ ⟨rfl, _, rfl⟩ (by (refine Ent.imp ?_; repeat first | exact Imp.refl _ | exact Imp.nil _ | (apply Imp.pull; focus ((repeat first | exact Del.head _ _ | apply Del.tail); done)) | (apply Imp.row; focus ((repeat first | exact Del.head _ _ | apply Del.tail); done)) | apply Imp.drop))
    · rw [hc1] at hc4; cases hc4
  · refine T.seq ?_
    refine T.reg ?_
    refine TO.p (DP.mv (by conv => lhs; whnf)) ?_
    refine TO.n (N.callF (alone_spec mac hm) Tryd.call24 ⟨rfl, trivial⟩ (by (repeat first | exact Pick.nil _ | (apply Pick.cons; focus ((repeat first | exact Del.head _ _ | apply Del.tail); done))))) ?_
    rintro u20 _ ⟨_, ⟨rfl, rfl⟩, rfl⟩
    try simp only [List.cons_append, List.nil_append]
    refine TO.p (DP.not rfl) ?_
    refine TO.p (DP.as (by conv => lhs; whnf)) ?_
    refine TO.nil ?_
    refine TQ.nn ?_
    refine T.condB rfl (fun hc2 => ?_) (fun hc2 => ?_)
    · refine T.skip ?_
      refine TQ.nn ?_
      refine T.condB rfl (fun hc4 => ?_) (fun hc4 => ?_)
      · refine T.seq ?_
        refine T.reg ?_
        refine TO.p (DP.as (by conv => lhs; whnf)) ?_
        refine TO.nil ?_
        refine TQ.nn ?_
        refine T.ret ?_
        refine TQ.br ?_
        refine TQ.nr ?_
        rw [learn_bad (.inr (.inl (by simpa using hc2)))]
        refine TQ.ret (vs := [.int .i64 (2 : Nat)]) (L' := [row 64 p (tabV q v), sl 40 3 v (l).length ((l).flatMap nearV)]) rfl ⟨rfl, rfl⟩ ⟨rfl, _, rfl⟩ (by (refine Ent.imp ?_; repeat first | exact Imp.refl _ | exact Imp.nil _ | (apply Imp.pull; focus ((repeat first | exact Del.head _ _ | apply Del.tail); done)) | (apply Imp.row; focus ((repeat first | exact Del.head _ _ | apply Del.tail); done)) | apply Imp.drop))
      · rw [hc2] at hc4; cases hc4
    · refine T.seq ?_
      refine T.reg ?_
      refine TO.p (DP.mv (by conv => lhs; whnf)) ?_
      refine TO.p (DP.mv (by conv => lhs; whnf)) ?_
      refine TO.p (DP.nck rfl) ?_
      refine TO.p (DP.fa 1 rfl Tryd.underlying64 rfl rfl sz26) ?_
      refine TO.d (D.ldR (v := .int .u32 q.addr) rfl pl26 (by (repeat first | exact LMem.head _ _ | apply LMem.tail)) rfl) ?_
      refine TO.p ((by first | exact DP.eql rfl rfl | exact DP.eqlI rfl rfl)) ?_
      refine TO.p (DP.as (by conv => lhs; whnf)) ?_
      refine TO.nil ?_
      refine TQ.nn ?_
      refine T.condD rfl (fun hc3 => ?_) (fun hc3 => ?_)
      · refine T.skip ?_
        refine TQ.nn ?_
        refine T.condD rfl (fun hc4 => ?_) (fun hc4 => ?_)
        · refine T.seq ?_
          refine T.reg ?_
          refine TO.p (DP.as (by conv => lhs; whnf)) ?_
          refine TO.nil ?_
          refine TQ.nn ?_
          refine T.ret ?_
          refine TQ.br ?_
          refine TQ.nr ?_
          rw [learn_bad (.inr (.inr (.inl hc3)))]
          refine TQ.ret (vs := [.int .i64 (2 : Nat)]) (L' := [row 64 p (tabV q v), sl 40 3 v (l).length ((l).flatMap nearV)]) rfl ⟨rfl, rfl⟩ ⟨rfl, _, rfl⟩ (by (refine Ent.imp ?_; repeat first | exact Imp.refl _ | exact Imp.nil _ | (apply Imp.pull; focus ((repeat first | exact Del.head _ _ | apply Del.tail); done)) | (apply Imp.row; focus ((repeat first | exact Del.head _ _ | apply Del.tail); done)) | apply Imp.drop))
        · exact absurd hc3 hc4
      · refine T.reg ?_
        refine TO.p (DP.mv (by conv => lhs; whnf)) ?_
        refine TO.p ((by first | exact DP.geq (b := 4611686018427387904) rfl rfl | exact DP.geqI rfl rfl)) ?_
        refine TO.p (DP.as (by conv => lhs; whnf)) ?_
        refine TO.nil ?_
        refine TQ.nn ?_
        refine T.condD rfl (fun hc4 => ?_) (fun hc4 => ?_)
        · refine T.seq ?_
          refine T.reg ?_
          refine TO.p (DP.as (by conv => lhs; whnf)) ?_
          refine TO.nil ?_
          refine TQ.nn ?_
          refine T.ret ?_
          refine TQ.br ?_
          refine TQ.nr ?_
          rw [learn_bad (.inr (.inr (.inr hc4)))]
          refine TQ.ret (vs := [.int .i64 (2 : Nat)]) (L' := [row 64 p (tabV q v), sl 40 3 v (l).length ((l).flatMap nearV)]) rfl ⟨rfl, rfl⟩ ⟨rfl, _, rfl⟩ (by (refine Ent.imp ?_; repeat first | exact Imp.refl _ | exact Imp.nil _ | (apply Imp.pull; focus ((repeat first | exact Del.head _ _ | apply Del.tail); done)) | (apply Imp.row; focus ((repeat first | exact Del.head _ _ | apply Del.tail); done)) | apply Imp.drop))
        · have hnb : ¬ (aloneA addr = false ∨ aloneE mac = false ∨ addr = q.addr ∨ 4611686018427387904 ≤ now) := by
            rintro (h | h | h | h)
            · rw [h] at hc1; cases hc1
            · rw [h] at hc2; cases hc2
            · exact hc3 h
            · exact hc4 h
          have htl := tidy_len l now
          have hq2 := hq.l2
          refine T.skip ?_
          refine TQ.bn ?_
          refine TQ.nn ?_
          refine T.seq ?_
          refine T.reg ?_
          refine TO.p (DP.mv (by conv => lhs; whnf)) ?_
          refine TO.p (DP.mv (by conv => lhs; whnf)) ?_
          refine TO.n (N.callF (tidy_spec q l v p hlen now) Tryd.call34 ⟨rfl, rfl, trivial⟩ (by (repeat first | exact Pick.nil _ | (apply Pick.cons; focus ((repeat first | exact Del.head _ _ | apply Del.tail); done))))) ?_
          rintro u32 _ ⟨_, ⟨rfl, v2, rfl⟩, rfl⟩
          try simp only [List.cons_append, List.nil_append]
          refine TO.nil ?_
          refine TQ.nn ?_
          refine T.seq ?_
          refine T.reg ?_
          refine TO.p (DP.mv (by conv => lhs; whnf)) ?_
          refine TO.p (DP.mv (by conv => lhs; whnf)) ?_
          refine TO.n (N.callF (find_spec q (tidyE now l) v2 p (by omega) addr (tidy_srt hs)) Tryd.call35 ⟨rfl, rfl, trivial⟩ (by (repeat first | exact Pick.nil _ | (apply Pick.cons; focus ((repeat first | exact Del.head _ _ | apply Del.tail); done))))) ?_
          rintro u36 _ ⟨_, ⟨rfl, rfl⟩, rfl⟩
          try simp only [List.cons_append, List.nil_append]
          refine TO.p (DP.mv (by conv => lhs; whnf)) ?_
          refine TO.p (DP.ex rfl rfl) ?_
          refine TO.p (DP.ex rfl rfl) ?_
          refine TO.p (DP.as (by conv => lhs; whnf)) ?_
          refine TO.p (DP.as (by conv => lhs; whnf)) ?_
          refine TO.nil ?_
          refine TQ.nn ?_
          refine T.seq ?_
          refine T.reg ?_
          refine TO.p (DP.mv (by conv => lhs; whnf)) ?_
          refine TO.p (DP.mv (by conv => lhs; whnf)) ?_
          refine TO.p (DP.mv (by conv => lhs; whnf)) ?_
          refine TO.p (DP.mv (by conv => lhs; whnf)) ?_
          refine TO.p (DP.nck rfl) ?_
          refine TO.p (DP.fa 3 rfl Tryd.underlying64 rfl rfl sz31) ?_
          refine TO.d (D.ldR (v := .int .u64 q.life) rfl pl31 (by (repeat first | exact LMem.head _ _ | apply LMem.tail)) rfl) ?_
          refine TO.p ((by first | exact DP.add rfl rfl (l := 18446744073709551616) rfl (by omega) | exact DP.addW rfl rfl rfl (l := 18446744073709551616) rfl | exact DP.addX rfl rfl)) ?_
          refine TO.p (DP.bdL (vs := [(0, _), (1, _), (2, _)]) (us := nearV ⟨addr, mac, now + q.life⟩) ⟨rfl, rfl, rfl, rfl, rfl, rfl, trivial⟩ pc40 zr40 rfl) ?_
          refine TO.n (N.alA zr40) ?_
          rintro _ _ ⟨b11, rfl, rfl⟩
          refine TO.n0 (N.stA (vs := nearV ⟨addr, mac, now + q.life⟩) rfl rfl sz40 (by (repeat first | exact Put.head _ _ _ | apply Put.tail)) (by simp [nearV]) (nearV_one _) (by rfl)) ?_
          rintro _ _ ⟨rfl, rfl⟩
          rw [show setAll _ 0 (nearV ⟨addr, mac, now + q.life⟩) = nearV ⟨addr, mac, now + q.life⟩ from rfl]
          refine TO.nil ?_
          refine TQ.nn ?_
          refine T.seq ?_
          refine T.block ?_
          refine T.seq ?_
          refine T.reg ?_
          refine TO.p (DP.mv (by conv => lhs; whnf)) ?_
          refine TO.p (DP.as (by conv => lhs; whnf)) ?_
          refine TO.nil ?_
          refine TQ.nn ?_
          refine T.condB rfl (fun hc5 => ?_) (fun hc5 => ?_)
          · obtain ⟨sx, hsx, hsa⟩ := (has_pos (tidy_srt (now := now) hs)).1 hc5
            have hpl : posE addr (tidyE now l) < (tidyE now l).length := by rcases Nat.lt_or_ge (posE addr (tidyE now l)) (tidyE now l).length with h5 | h5; exact h5; rw [List.getElem?_eq_none h5] at hsx; cases hsx
            refine T.drawL [7] mixed (by repeat first | exact Calm.rt | apply Calm.t | apply Calm.b | apply Calm.l | apply Calm.ct) ?_
            refine TR.p 0 rfl (by kernel_rfl) (DP.mv (by conv => lhs; whnf)) ?_
            refine TR.p 1 rfl (by kernel_rfl) (DP.nck rfl) ?_
            refine TR.p 2 rfl (by kernel_rfl) (DP.fa 4 rfl Tryd.underlying64 rfl rfl sz32) ?_
            refine TR.d 3 rfl (by kernel_rfl) (by kernel_rfl) (by (refine Ent.imp ?_; repeat first | exact Imp.refl _ | exact Imp.nil _ | (apply Imp.pull; focus ((repeat first | exact Del.head _ _ | apply Del.tail); done)) | (apply Imp.row; focus ((repeat first | exact Del.head _ _ | apply Del.tail); done)) | apply Imp.drop)) (D.ldR (v := v2) rfl pl32 (by (repeat first | exact LMem.head _ _ | apply LMem.tail)) rfl) ?_
            refine TR.p 4 rfl (by kernel_rfl) (DP.mv (by conv => lhs; whnf)) ?_
            refine TR.d 5 rfl (by kernel_rfl) (by kernel_rfl) (by (refine Ent.imp ?_; repeat first | exact Imp.refl _ | exact Imp.nil _ | (apply Imp.pull; focus ((repeat first | exact Del.head _ _ | apply Del.tail); done)) | (apply Imp.row; focus ((repeat first | exact Del.head _ _ | apply Del.tail); done)) | apply Imp.drop)) (D.ldRA (cs := nearV ⟨addr, mac, now + q.life⟩) rfl ag40 sz40 (by (repeat first | exact LMem.head _ _ | apply LMem.tail)) rfl) ?_
            refine TR.d 6 rfl (by kernel_rfl) (by kernel_rfl) (by (refine Ent.imp ?_; repeat first | exact Imp.refl _ | exact Imp.nil _ | (apply Imp.pull; focus ((repeat first | exact Del.head _ _ | apply Del.tail); done)) | (apply Imp.row; focus ((repeat first | exact Del.head _ _ | apply Del.tail); done)) | apply Imp.drop)) (D.iasO rfl rfl Tryd.underlying32 sz40 (by (repeat first | exact LMem.head _ _ | apply LMem.tail)) hpl) ?_
            refine TR.n0 7 (by kernel_rfl) rfl (N.stOA (us := nearV ⟨addr, mac, now + q.life⟩) (sz := 2) (by conv => lhs; whnf) rfl sz40 (by (repeat first | exact Put.head _ _ _ | apply Put.tail)) hpl (nearV_len _) (nearV_one _)) ?_
            rintro _ _ ⟨rfl, rfl⟩
            rw [flat_set nearV_len (tidyE now l) _ hpl ⟨addr, mac, now + q.life⟩]
            refine ⟨.inl rfl, ?_⟩
            refine TR.done (by kernel_rfl) ?_
            refine TQ.bn ?_
            refine TQ.nn ?_
            refine T.seq ?_
            refine T.reg ?_
            refine TO.p (DP.as (by conv => lhs; whnf)) ?_
            refine TO.nil ?_
            refine TQ.nn ?_
            refine T.ret ?_
            rw [learn_set hnb hc5]
            refine TQ.ret (vs := [.int .i64 (0 : Nat)]) (L' := [row 64 p (tabV q v2), sl 40 3 v2 (((tidyE now l).set (posE addr (tidyE now l)) ⟨addr, mac, now + q.life⟩)).length ((((tidyE now l).set (posE addr (tidyE now l)) ⟨addr, mac, now + q.life⟩)).flatMap nearV)]) rfl ⟨rfl, rfl⟩ ⟨rfl, _, rfl⟩ (by simp only [List.length_set]; (refine Ent.imp ?_; repeat first | exact Imp.refl _ | exact Imp.nil _ | (apply Imp.pull; focus ((repeat first | exact Del.head _ _ | apply Del.tail); done)) | (apply Imp.row; focus ((repeat first | exact Del.head _ _ | apply Del.tail); done)) | apply Imp.drop))
          · have hc5n : ¬ hasE addr (tidyE now l) = true := by rw [hc5]; decide
            refine T.seq ?_
            refine T.drawL [] mixed (by repeat first | exact Calm.rt | apply Calm.t | apply Calm.b | apply Calm.l | apply Calm.ct) ?_
            refine TR.p 0 rfl (by kernel_rfl) (DP.mv (by conv => lhs; whnf)) ?_
            refine TR.p 1 rfl (by kernel_rfl) (DP.nck rfl) ?_
            refine TR.p 2 rfl (by kernel_rfl) (DP.fa 4 rfl Tryd.underlying64 rfl rfl sz32) ?_
            refine TR.d 3 rfl (by kernel_rfl) (by kernel_rfl) (by (refine Ent.imp ?_; repeat first | exact Imp.refl _ | exact Imp.nil _ | (apply Imp.pull; focus ((repeat first | exact Del.head _ _ | apply Del.tail); done)) | (apply Imp.row; focus ((repeat first | exact Del.head _ _ | apply Del.tail); done)) | apply Imp.drop)) (D.ldR (v := v2) rfl pl32 (by (repeat first | exact LMem.head _ _ | apply LMem.tail)) rfl) ?_
            refine TR.d 4 rfl (by kernel_rfl) (by kernel_rfl) (by (refine Ent.imp ?_; repeat first | exact Imp.refl _ | exact Imp.nil _ | (apply Imp.pull; focus ((repeat first | exact Del.head _ _ | apply Del.tail); done)) | (apply Imp.row; focus ((repeat first | exact Del.head _ _ | apply Del.tail); done)) | apply Imp.drop)) (D.lenO (by conv => lhs; whnf) Tryd.underlying32 (by (repeat first | exact LMem.head _ _ | apply LMem.tail))) ?_
            refine TR.p 5 rfl (by kernel_rfl) (DP.mv (by conv => lhs; whnf)) ?_
            refine TR.p 6 rfl (by kernel_rfl) (DP.nck rfl) ?_
            refine TR.p 7 rfl (by kernel_rfl) (DP.fa 2 rfl Tryd.underlying64 rfl rfl sz3) ?_
            refine TR.d 8 rfl (by kernel_rfl) (by kernel_rfl) (by (refine Ent.imp ?_; repeat first | exact Imp.refl _ | exact Imp.nil _ | (apply Imp.pull; focus ((repeat first | exact Del.head _ _ | apply Del.tail); done)) | (apply Imp.row; focus ((repeat first | exact Del.head _ _ | apply Del.tail); done)) | apply Imp.drop)) (D.ldR (v := .int .i64 q.most) rfl pl3 (by (repeat first | exact LMem.head _ _ | apply LMem.tail)) rfl) ?_
            refine TR.p 9 rfl (by kernel_rfl) ((by first | exact DP.geq rfl rfl | exact DP.geqI rfl rfl)) ?_
            refine TR.p 10 rfl (by kernel_rfl) (DP.as (by conv => lhs; whnf)) ?_
            refine TR.done (by kernel_rfl) ?_
            refine TQ.nn ?_
            refine T.condD rfl (fun hc6 => ?_) (fun hc6 => ?_)
            · refine T.seq ?_
              refine T.reg ?_
              refine TO.p (DP.as (by conv => lhs; whnf)) ?_
              refine TO.nil ?_
              refine TQ.nn ?_
              refine T.ret ?_
              refine TQ.br ?_
              refine TQ.nr ?_
              rw [learn_full hnb hc5n hc6]
              refine TQ.ret (vs := [.int .i64 (6 : Nat)]) (L' := [row 64 p (tabV q v2), sl 40 3 v2 (tidyE now l).length ((tidyE now l).flatMap nearV)]) rfl ⟨rfl, rfl⟩ ⟨rfl, _, rfl⟩ (by (refine Ent.imp ?_; repeat first | exact Imp.refl _ | exact Imp.nil _ | (apply Imp.pull; focus ((repeat first | exact Del.head _ _ | apply Del.tail); done)) | (apply Imp.row; focus ((repeat first | exact Del.head _ _ | apply Del.tail); done)) | apply Imp.drop))
            · refine T.drawL [8, 11] mixed (by repeat first | exact Calm.rt | apply Calm.t | apply Calm.b | apply Calm.l | apply Calm.ct) ?_
              refine TR.p 0 rfl (by kernel_rfl) (DP.mv (by conv => lhs; whnf)) ?_
              refine TR.p 1 rfl (by kernel_rfl) (DP.mv (by conv => lhs; whnf)) ?_
              refine TR.p 2 rfl (by kernel_rfl) (DP.nck rfl) ?_
              refine TR.p 3 rfl (by kernel_rfl) (DP.fa 4 rfl Tryd.underlying64 rfl rfl sz32) ?_
              refine TR.d 4 rfl (by kernel_rfl) (by kernel_rfl) (by (refine Ent.imp ?_; repeat first | exact Imp.refl _ | exact Imp.nil _ | (apply Imp.pull; focus ((repeat first | exact Del.head _ _ | apply Del.tail); done)) | (apply Imp.row; focus ((repeat first | exact Del.head _ _ | apply Del.tail); done)) | apply Imp.drop)) (D.ldR (v := v2) rfl pl32 (by (repeat first | exact LMem.head _ _ | apply LMem.tail)) rfl) ?_
              refine TR.p 5 rfl (by kernel_rfl) (DP.mv (by conv => lhs; whnf)) ?_
              refine TR.d 6 rfl (by kernel_rfl) (by kernel_rfl) (by (refine Ent.imp ?_; repeat first | exact Imp.refl _ | exact Imp.nil _ | (apply Imp.pull; focus ((repeat first | exact Del.head _ _ | apply Del.tail); done)) | (apply Imp.row; focus ((repeat first | exact Del.head _ _ | apply Del.tail); done)) | apply Imp.drop)) (D.ldRA (cs := nearV ⟨addr, mac, now + q.life⟩) rfl ag40 sz40 (by (repeat first | exact LMem.head _ _ | apply LMem.tail)) rfl) ?_
              refine TR.n 7 (by kernel_rfl) rfl (N.bsL (len := 1) (vs := [(0, _)]) (us := nearV ⟨addr, mac, now + q.life⟩) ⟨rfl, rfl, trivial⟩ Tryd.underlying32 sz40 zr40 rfl (by omega) rfl) ?_
              rintro _ _ ⟨b55, rfl, rfl⟩
              refine ⟨.inr (by (refine Ent.imp ?_; repeat first | exact Imp.refl _ | exact Imp.nil _ | (apply Imp.pull; focus ((repeat first | exact Del.head _ _ | apply Del.tail); done)) | (apply Imp.row; focus ((repeat first | exact Del.head _ _ | apply Del.tail); done)) | apply Imp.drop)), ?_⟩
              refine TR.n 8 (by kernel_rfl) rfl (N.callF (insert_at b55 (posE addr (tidyE now l)) v2 (tidyE now l) ⟨addr, mac, now + q.life⟩ (by omega) (pos_le _ _)) Tryd.call36 ⟨rfl, rfl, rfl, trivial⟩ (by (repeat first | exact Pick.nil _ | (apply Pick.cons; focus ((repeat first | exact Del.head _ _ | apply Del.tail); done))))) ?_
              rintro u56 _ ⟨_, rfl, rfl⟩
              try simp only [List.cons_append, List.nil_append]
              refine ⟨.inl rfl, ?_⟩
              refine TR.p 9 rfl (by kernel_rfl) (DP.nck rfl) ?_
              refine TR.p 10 rfl (by kernel_rfl) (DP.fa 4 rfl Tryd.underlying64 rfl rfl sz32) ?_
              refine TR.n0 11 (by kernel_rfl) rfl (N.stS rfl rfl sz32 (by (repeat first | exact LMem.head _ _ | apply LMem.tail)) (by (repeat first | exact Put.head _ _ _ | apply Put.tail)) (by simp [tabV])) ?_
              rintro _ _ ⟨rfl, rfl⟩
              refine ⟨.inl rfl, ?_⟩
              refine TR.done (by kernel_rfl) ?_
              refine TQ.bn ?_
              refine TQ.nn ?_
              refine T.seq ?_
              refine T.reg ?_
              refine TO.p (DP.as (by conv => lhs; whnf)) ?_
              refine TO.nil ?_
              refine TQ.nn ?_
              refine T.ret ?_
              rw [learn_put hnb hc5n hc6]
              refine TQ.ret (vs := [.int .i64 (0 : Nat)]) (L' := [row 64 p (tabV q u56), sl 40 3 u56 (((tidyE now l).take (posE addr (tidyE now l)) ++ ⟨addr, mac, now + q.life⟩ :: (tidyE now l).drop (posE addr (tidyE now l)))).length ((((tidyE now l).take (posE addr (tidyE now l)) ++ ⟨addr, mac, now + q.life⟩ :: (tidyE now l).drop (posE addr (tidyE now l)))).flatMap nearV)]) rfl ⟨rfl, rfl⟩ ⟨rfl, _, rfl⟩ (by (refine Ent.imp ?_; repeat first | exact Imp.refl _ | exact Imp.nil _ | (apply Imp.pull; focus ((repeat first | exact Del.head _ _ | apply Del.tail); done)) | (apply Imp.row; focus ((repeat first | exact Del.head _ _ | apply Del.tail); done)) | apply Imp.drop))

theorem learn_nil (addr : Nat) (mac : List UInt8) (now : Nat) :
    Sat Tryd.prog 12 [.pointer none, .int .u32 addr, str mac, .int .u64 now] [] (fun u L' => u = .int .i64 (1 : Nat) ∧ L' = []) := by
  refine Sat.enter Tryd.func12 rfl Tryd.ntmps12 rfl (fun c R => ?_)
  try simp only [List.cons_append, List.nil_append]
  refine T.seq ?_
  refine T.reg ?_
  refine TO.p (DP.as (by conv => lhs; whnf)) ?_
  refine TO.nil ?_
  refine TQ.nn ?_
  refine T.seq ?_
  refine T.block ?_
  refine T.seq ?_
  refine T.reg ?_
  refine TO.p (DP.mv (by conv => lhs; whnf)) ?_
  refine TO.p (DP.peq0 rfl rfl Tryd.underlying27) ?_
  refine TO.p (DP.as (by conv => lhs; whnf)) ?_
  refine TO.nil ?_
  refine TQ.nn ?_
  refine T.condT rfl ?_
  refine T.seq ?_
  refine T.reg ?_
  refine TO.p (DP.as (by conv => lhs; whnf)) ?_
  refine TO.nil ?_
  refine TQ.nn ?_
  refine T.ret ?_
  refine TQ.br ?_
  refine TQ.nr ?_
  refine TQ.ret (vs := [.int .i64 (1 : Nat)]) (L' := []) rfl ⟨rfl, rfl⟩ ⟨rfl, rfl⟩ (by (refine Ent.imp ?_; repeat first | exact Imp.refl _ | exact Imp.nil _ | (apply Imp.pull; focus ((repeat first | exact Del.head _ _ | apply Del.tail); done)) | (apply Imp.row; focus ((repeat first | exact Del.head _ _ | apply Del.tail); done)) | apply Imp.drop))
end Go.Proofs.YtbandaebilkkkaaDoor
