/- Lemmas for the proofs of this seat: no statement of the seat is claimed here. -/
import Derived.Test.YtbandaebilkkkaaDoorK16
set_option linter.all false
namespace Go.Proofs.YtbandaebilkkkaaDoor
open Go Pw
set_option maxRecDepth 20000
set_option maxHeartbeats 4000000

theorem stepV_a (t : Stp) : ∀ i v, (arV t.a)[i]? = some v → (stepV t)[1 + i]? = some v := by
  intro i v h
  match i, h with
  | 0, h => exact h
  | 1, h => exact h
  | 2, h => exact h
  | 3, h => exact h
  | 4, h => exact h
  | n + 5, h => cases h
theorem take_srt {q : Tb} {l : List Nr} {a : Ar} {now : Nat} (h : Srt l) : Srt (takeE q l a now).1 := by
  unfold takeE
  split
  · exact h
  · dsimp only
    split
    · exact learn_srt (tidy_srt h)
    · exact tidy_srt h
theorem take_len {q : Tb} {l : List Nr} {a : Ar} {now : Nat} (h : l.length ≤ q.most) : (takeE q l a now).1.length ≤ q.most := by
  have := tidy_len l now
  unfold takeE
  split
  · exact h
  · dsimp only
    split
    · exact learn_len (by omega)
    · omega
theorem look_srt {l : List Nr} {a now : Nat} (h : Srt l) : Srt (lookE l a now).1 := by
  unfold lookE; split
  · exact h
  · exact tidy_srt h
theorem look_len (l : List Nr) (a now : Nat) : (lookE l a now).1.length ≤ l.length := by
  unfold lookE; split
  · exact Nat.le_refl _
  · exact tidy_len _ _
theorem near_srt {l : List Nr} {now : Nat} (h : Srt l) : Srt (nearE l now) := by
  unfold nearE; split
  · exact tidy_srt h
  · exact h
theorem near_len (l : List Nr) (now : Nat) : (nearE l now).length ≤ l.length := by
  unfold nearE; split
  · exact tidy_len _ _
  · exact Nat.le_refl _
theorem newOk_ok {mac : List UInt8} {addr : Nat} {most : Int} {life : Nat} (h : newOk mac addr most life) (hm : mac.length ≤ 1048576) (ha : addr < 4294967296) : Tb.ok ⟨mac, addr, most.toNat, life⟩ := by
  obtain ⟨h1, h2, h3, h4, h5, h6⟩ := h
  exact ⟨hm, h1, ha, h2, by dsimp only; omega, by dsimp only; omega, h5, h6⟩
theorem plays_no (h : Array Obj) (v : Value) (l : List Stp) (hI : Inp h 9 l.length v (l.flatMap stepV)) (hok : ∀ t ∈ l, t.ok) (mac : List UInt8) (addr : Nat) (most : Int) (life : Nat) (hmac : mac.length ≤ 140737488351232) (haddr : addr < 4294967296) (hlife : life < 18446744073709551616) (hnew : ¬ newOk mac addr most life) :
    Sat Tryd.prog 6 [str mac, .int .u32 addr, .int .i64 most, .int .u64 life, v] [old h] (fun u L' => u = .bool true ∧ L' = [old h]) := by
  refine Sat.enter Tryd.func6 rfl Tryd.ntmps6 rfl (fun c R => ?_)
  try simp only [List.cons_append, List.nil_append]
  refine T.seq ?_
  refine T.reg ?_
  refine TO.p (DP.as (by conv => lhs; whnf)) ?_
  refine TO.nil ?_
  refine TQ.nn ?_
  refine T.seq ?_
  refine T.seq ?_
  refine T.reg ?_
  refine TO.p (DP.mv (by conv => lhs; whnf)) ?_
  refine TO.n (N.callF (heavy_spec h v l hI hok) Tryd.call8 ⟨rfl, trivial⟩ (by (repeat first | exact Pick.nil _ | (apply Pick.cons; focus ((repeat first | exact Del.head _ _ | apply Del.tail); done))))) ?_
  rintro u31 _ ⟨_, ⟨hb, rfl, hhv, rfl⟩, rfl⟩
  try simp only [List.cons_append, List.nil_append]
  refine TO.pb (DP.mv (by conv => lhs; whnf)) (fun hg32 => ?_) (fun hg32 => ?_)
  · refine TO.off rfl rfl ?_
    refine TO.off rfl rfl ?_
    refine TO.off rfl rfl ?_
    refine TO.p (DP.pkT rfl (by conv => lhs; whnf)) ?_
    refine TO.nil ?_
    refine TQ.nn ?_
    refine T.condT rfl ?_
    refine T.seq ?_
    refine T.reg ?_
    refine TO.n (N.callF (works_spec) Tryd.call9 trivial (by (repeat first | exact Pick.nil _ | (apply Pick.cons; focus ((repeat first | exact Del.head _ _ | apply Del.tail); done))))) ?_
    rintro u37 _ ⟨_, ⟨rfl, rfl⟩, rfl⟩
    try simp only [List.cons_append, List.nil_append]
    refine TO.p (DP.as (by conv => lhs; whnf)) ?_
    refine TO.nil ?_
    refine TQ.nn ?_
    refine T.ret ?_
    refine TQ.nr ?_
    refine TQ.ret (vs := [.bool true]) (L' := [old h]) rfl ⟨rfl, rfl⟩ ⟨rfl, rfl⟩ (by (refine Ent.imp ?_; repeat first | exact Imp.refl _ | exact Imp.nil _ | (apply Imp.pull; focus ((repeat first | exact Del.head _ _ | apply Del.tail); done)) | (apply Imp.row; focus ((repeat first | exact Del.head _ _ | apply Del.tail); done)) | apply Imp.drop))
  · refine TO.onP rfl (DP.mv (by conv => lhs; whnf)) ?_
    refine TO.onP rfl (DP.lenT rfl Tryd.underlying9) ?_
    refine TO.onP rfl (DP.gtr (b := 100) rfl rfl) ?_
    refine TO.p (DP.pkF rfl (by conv => lhs; whnf)) ?_
    refine TO.nil ?_
    refine TQ.nn ?_
    refine T.condD rfl (fun hc0 => ?_) (fun hc0 => ?_)
    · refine T.seq ?_
      refine T.reg ?_
      refine TO.n (N.callF (works_spec) Tryd.call9 trivial (by (repeat first | exact Pick.nil _ | (apply Pick.cons; focus ((repeat first | exact Del.head _ _ | apply Del.tail); done))))) ?_
      rintro u37 _ ⟨_, ⟨rfl, rfl⟩, rfl⟩
      try simp only [List.cons_append, List.nil_append]
      refine TO.p (DP.as (by conv => lhs; whnf)) ?_
      refine TO.nil ?_
      refine TQ.nn ?_
      refine T.ret ?_
      refine TQ.nr ?_
      refine TQ.ret (vs := [.bool true]) (L' := [old h]) rfl ⟨rfl, rfl⟩ ⟨rfl, rfl⟩ (by (refine Ent.imp ?_; repeat first | exact Imp.refl _ | exact Imp.nil _ | (apply Imp.pull; focus ((repeat first | exact Del.head _ _ | apply Del.tail); done)) | (apply Imp.row; focus ((repeat first | exact Del.head _ _ | apply Del.tail); done)) | apply Imp.drop))
    · obtain ⟨hll, hls⟩ := hhv hg32
      have hsm : ∀ t ∈ l, t.a.f.length ≤ 8192 ∧ t.a.t.length ≤ 8192 ∧ t.mac.length ≤ 8192 := fun t ht => by
        have h5 := lens_mem ht
        omega
      refine T.skip ?_
      refine TQ.nn ?_
      refine T.seq ?_
      refine T.reg ?_
      refine TO.p (DP.mv (by conv => lhs; whnf)) ?_
      refine TO.p (DP.mv (by conv => lhs; whnf)) ?_
      refine TO.p (DP.mv (by conv => lhs; whnf)) ?_
      refine TO.p (DP.mv (by conv => lhs; whnf)) ?_
      refine TO.n (N.callF (new_no mac addr most life (by omega) haddr hnew) Tryd.call10 ⟨rfl, rfl, rfl, rfl, trivial⟩ (by (repeat first | exact Pick.nil _ | (apply Pick.cons; focus ((repeat first | exact Del.head _ _ | apply Del.tail); done))))) ?_
      rintro u43 _ ⟨_, ⟨rfl, rfl⟩, rfl⟩
      try simp only [List.cons_append, List.nil_append]
      refine TO.p (DP.mv (by conv => lhs; whnf)) ?_
      refine TO.p (DP.ex rfl rfl) ?_
      refine TO.p (DP.ex rfl rfl) ?_
      refine TO.p (DP.as (by conv => lhs; whnf)) ?_
      refine TO.p (DP.as (by conv => lhs; whnf)) ?_
      refine TO.nil ?_
      refine TQ.nn ?_
      refine T.seq ?_
      refine T.reg ?_
      refine TO.p (DP.mv (by conv => lhs; whnf)) ?_
      refine TO.p (DP.mv (by conv => lhs; whnf)) ?_
      refine TO.p (DP.mv (by conv => lhs; whnf)) ?_
      refine TO.p (DP.mv (by conv => lhs; whnf)) ?_
      refine TO.n (N.callF (rnew_no mac addr most life (by omega) haddr hnew) Tryd.call27 ⟨rfl, rfl, rfl, rfl, trivial⟩ (by (repeat first | exact Pick.nil _ | (apply Pick.cons; focus ((repeat first | exact Del.head _ _ | apply Del.tail); done))))) ?_
      rintro u50 _ ⟨_, ⟨rfl, rfl⟩, rfl⟩
      try simp only [List.cons_append, List.nil_append]
      refine TO.p (DP.as (by conv => lhs; whnf)) ?_
      refine TO.nil ?_
      refine TQ.nn ?_
      refine T.seq ?_
      refine T.seq ?_
      refine T.reg ?_
      refine TO.p (DP.mv (by conv => lhs; whnf)) ?_
      refine TO.p (DP.peq0 rfl rfl Tryd.underlying57) ?_
      refine TO.nil ?_
      refine TQ.nn ?_
      refine T.condT rfl ?_
      refine T.seq ?_
      refine T.reg ?_
      refine TO.p (DP.mv (by conv => lhs; whnf)) ?_
      refine TO.p (DP.peq0 rfl rfl Tryd.underlying27) ?_
      refine TO.p (DP.mv (by conv => lhs; whnf)) ?_
      refine TO.onP rfl (DP.mv (by conv => lhs; whnf)) ?_
      refine TO.onP rfl (DP.to (v' := .bool true) (DP.eql (a := 2) (b := 2) rfl rfl) (by simp)) ?_
      refine TO.p (DP.pkT rfl (by conv => lhs; whnf)) ?_
      refine TO.p (DP.mv (by conv => lhs; whnf)) ?_
      refine TO.on rfl (N.callF (works_spec) Tryd.call9 trivial (by (repeat first | exact Pick.nil _ | (apply Pick.cons; focus ((repeat first | exact Del.head _ _ | apply Del.tail); done))))) ?_
      rintro u60 _ ⟨_, ⟨rfl, rfl⟩, rfl⟩
      try simp only [List.cons_append, List.nil_append]
      refine TO.p (DP.pkT rfl (by conv => lhs; whnf)) ?_
      refine TO.p (DP.as (by conv => lhs; whnf)) ?_
      refine TO.nil ?_
      refine TQ.nn ?_
      refine T.ret ?_
      refine TQ.nr ?_
      refine TQ.ret (vs := [.bool true]) (L' := [old h]) rfl ⟨rfl, rfl⟩ ⟨rfl, rfl⟩ (by (refine Ent.imp ?_; repeat first | exact Imp.refl _ | exact Imp.nil _ | (apply Imp.pull; focus ((repeat first | exact Del.head _ _ | apply Del.tail); done)) | (apply Imp.row; focus ((repeat first | exact Del.head _ _ | apply Del.tail); done)) | apply Imp.drop))

theorem plays_new (h : Array Obj) (v : Value) (l : List Stp) (hI : Inp h 9 l.length v (l.flatMap stepV)) (hok : ∀ t ∈ l, t.ok) (mac : List UInt8) (addr : Nat) (most : Int) (life : Nat) (hmac : mac.length ≤ 140737488351232) (haddr : addr < 4294967296) (hlife : life < 18446744073709551616) (hnew : newOk mac addr most life) :
    Sat Tryd.prog 6 [str mac, .int .u32 addr, .int .i64 most, .int .u64 life, v] [old h] (fun u L' => u = .bool true ∧ L' = [old h]) := by
  refine Sat.enter Tryd.func6 rfl Tryd.ntmps6 rfl (fun c R => ?_)
  try simp only [List.cons_append, List.nil_append]
  refine T.seq ?_
  refine T.reg ?_
  refine TO.p (DP.as (by conv => lhs; whnf)) ?_
  refine TO.nil ?_
  refine TQ.nn ?_
  refine T.seq ?_
  refine T.seq ?_
  refine T.reg ?_
  refine TO.p (DP.mv (by conv => lhs; whnf)) ?_
  refine TO.n (N.callF (heavy_spec h v l hI hok) Tryd.call8 ⟨rfl, trivial⟩ (by (repeat first | exact Pick.nil _ | (apply Pick.cons; focus ((repeat first | exact Del.head _ _ | apply Del.tail); done))))) ?_
  rintro u31 _ ⟨_, ⟨hb, rfl, hhv, rfl⟩, rfl⟩
  try simp only [List.cons_append, List.nil_append]
  refine TO.pb (DP.mv (by conv => lhs; whnf)) (fun hg32 => ?_) (fun hg32 => ?_)
  · refine TO.off rfl rfl ?_
    refine TO.off rfl rfl ?_
    refine TO.off rfl rfl ?_
    refine TO.p (DP.pkT rfl (by conv => lhs; whnf)) ?_
    refine TO.nil ?_
    refine TQ.nn ?_
    refine T.condT rfl ?_
    refine T.seq ?_
    refine T.reg ?_
    refine TO.n (N.callF (works_spec) Tryd.call9 trivial (by (repeat first | exact Pick.nil _ | (apply Pick.cons; focus ((repeat first | exact Del.head _ _ | apply Del.tail); done))))) ?_
    rintro u37 _ ⟨_, ⟨rfl, rfl⟩, rfl⟩
    try simp only [List.cons_append, List.nil_append]
    refine TO.p (DP.as (by conv => lhs; whnf)) ?_
    refine TO.nil ?_
    refine TQ.nn ?_
    refine T.ret ?_
    refine TQ.nr ?_
    refine TQ.ret (vs := [.bool true]) (L' := [old h]) rfl ⟨rfl, rfl⟩ ⟨rfl, rfl⟩ (by (refine Ent.imp ?_; repeat first | exact Imp.refl _ | exact Imp.nil _ | (apply Imp.pull; focus ((repeat first | exact Del.head _ _ | apply Del.tail); done)) | (apply Imp.row; focus ((repeat first | exact Del.head _ _ | apply Del.tail); done)) | apply Imp.drop))
  · refine TO.onP rfl (DP.mv (by conv => lhs; whnf)) ?_
    refine TO.onP rfl (DP.lenT rfl Tryd.underlying9) ?_
    refine TO.onP rfl (DP.gtr (b := 100) rfl rfl) ?_
    refine TO.p (DP.pkF rfl (by conv => lhs; whnf)) ?_
    refine TO.nil ?_
    refine TQ.nn ?_
    refine T.condD rfl (fun hc0 => ?_) (fun hc0 => ?_)
    · refine T.seq ?_
      refine T.reg ?_
      refine TO.n (N.callF (works_spec) Tryd.call9 trivial (by (repeat first | exact Pick.nil _ | (apply Pick.cons; focus ((repeat first | exact Del.head _ _ | apply Del.tail); done))))) ?_
      rintro u37 _ ⟨_, ⟨rfl, rfl⟩, rfl⟩
      try simp only [List.cons_append, List.nil_append]
      refine TO.p (DP.as (by conv => lhs; whnf)) ?_
      refine TO.nil ?_
      refine TQ.nn ?_
      refine T.ret ?_
      refine TQ.nr ?_
      refine TQ.ret (vs := [.bool true]) (L' := [old h]) rfl ⟨rfl, rfl⟩ ⟨rfl, rfl⟩ (by (refine Ent.imp ?_; repeat first | exact Imp.refl _ | exact Imp.nil _ | (apply Imp.pull; focus ((repeat first | exact Del.head _ _ | apply Del.tail); done)) | (apply Imp.row; focus ((repeat first | exact Del.head _ _ | apply Del.tail); done)) | apply Imp.drop))
    · obtain ⟨hll, hls⟩ := hhv hg32
      have hsm : ∀ t ∈ l, t.a.f.length ≤ 8192 ∧ t.a.t.length ≤ 8192 ∧ t.mac.length ≤ 8192 := fun t ht => by
        have h5 := lens_mem ht
        omega
      have hq := newOk_ok hnew (by omega) haddr
      have hq64 : most.toNat ≤ 64 := hq.m2
      refine T.skip ?_
      refine TQ.nn ?_
      refine T.seq ?_
      refine T.reg ?_
      refine TO.p (DP.mv (by conv => lhs; whnf)) ?_
      refine TO.p (DP.mv (by conv => lhs; whnf)) ?_
      refine TO.p (DP.mv (by conv => lhs; whnf)) ?_
      refine TO.p (DP.mv (by conv => lhs; whnf)) ?_
      refine TO.n (N.callF (new_ok mac addr most life (by omega) haddr hnew) Tryd.call10 ⟨rfl, rfl, rfl, rfl, trivial⟩ (by (repeat first | exact Pick.nil _ | (apply Pick.cons; focus ((repeat first | exact Del.head _ _ | apply Del.tail); done))))) ?_
      rintro u43 _ ⟨_, ⟨p, rfl, rfl⟩, rfl⟩
      try simp only [List.cons_append, List.nil_append]
      refine TO.p (DP.mv (by conv => lhs; whnf)) ?_
      refine TO.p (DP.ex rfl rfl) ?_
      refine TO.p (DP.ex rfl rfl) ?_
      refine TO.p (DP.as (by conv => lhs; whnf)) ?_
      refine TO.p (DP.as (by conv => lhs; whnf)) ?_
      refine TO.nil ?_
      refine TQ.nn ?_
      refine T.seq ?_
      refine T.reg ?_
      refine TO.p (DP.mv (by conv => lhs; whnf)) ?_
      refine TO.p (DP.mv (by conv => lhs; whnf)) ?_
      refine TO.p (DP.mv (by conv => lhs; whnf)) ?_
      refine TO.p (DP.mv (by conv => lhs; whnf)) ?_
      refine TO.n (N.callF (rnew_ok mac addr most life (by omega) haddr hnew) Tryd.call27 ⟨rfl, rfl, rfl, rfl, trivial⟩ (by (repeat first | exact Pick.nil _ | (apply Pick.cons; focus ((repeat first | exact Del.head _ _ | apply Del.tail); done))))) ?_
      rintro u50 _ ⟨_, ⟨r, rfl, rfl⟩, rfl⟩
      try simp only [List.cons_append, List.nil_append]
      refine TO.p (DP.as (by conv => lhs; whnf)) ?_
      refine TO.nil ?_
      refine TQ.nn ?_
      refine T.seq ?_
      refine T.seq ?_
      refine T.reg ?_
      refine TO.p (DP.mv (by conv => lhs; whnf)) ?_
      refine TO.p (DP.peqS rfl rfl Tryd.underlying57) ?_
      refine TO.nil ?_
      refine TQ.nn ?_
      refine T.condF rfl ?_
      refine T.skip ?_
      refine TQ.nn ?_
      refine T.seq ?_
      refine T.seq ?_
      refine T.reg ?_
      refine TO.p (DP.mv (by conv => lhs; whnf)) ?_
      refine TO.p (DP.peqS rfl rfl Tryd.underlying27) ?_
      refine TO.p (DP.mv (by conv => lhs; whnf)) ?_
      refine TO.onP rfl (DP.mv (by conv => lhs; whnf)) ?_
      refine TO.onP rfl (DP.to (v' := .bool false) (DP.neq (a := 0) (b := 0) rfl rfl) (by simp)) ?_
      refine TO.p (DP.pkF rfl (by conv => lhs; whnf)) ?_
      refine TO.nil ?_
      refine TQ.nn ?_
      refine T.condF rfl ?_
      refine T.skip ?_
      refine TQ.nn ?_
      refine T.seq ?_
      refine T.seq ?_
      refine T.reg ?_
      refine TO.p (DP.as (by conv => lhs; whnf)) ?_
      refine TO.nil ?_
      refine TQ.nn ?_
      refine T.block ?_
      refine T.loop (S := Nat × List Nr × Value × Value) (0, [], .slice none 0 0, .slice none 0 0) (fun ⟨i, w, vt, vr⟩ => [(0, str mac), (1, .int .u32 addr), (4, v), (11, .pointer (some ⟨p, 0, none⟩)), (13, .pointer (some ⟨r, 0, none⟩)), (14, .int .i64 (i : Nat))]) (fun ⟨i, w, vt, vr⟩ => old h :: row 64 p (tabV (⟨mac, addr, most.toNat, life⟩ : Tb) vt) :: sl 40 3 vt (w).length ((w).flatMap nearV) :: row 80 r (tabV (⟨mac, addr, most.toNat, life⟩ : Tb) vr) :: sl 40 3 vr (w).length ((w).flatMap nearV) :: R) (fun ⟨i, w, vt, vr⟩ => i ≤ l.length ∧ Srt w ∧ w.length ≤ (⟨mac, addr, most.toNat, life⟩ : Tb).most) (fun ⟨i, w, vt, vr⟩ => l.length - i) ?_ ?_ ?_ ?_
      · (repeat first | exact trivial | refine ⟨rfl, ?_⟩)
      · exact ⟨Nat.zero_le _, List.Pairwise.nil, Nat.zero_le _⟩
      · (dsimp only; (refine Ent.imp ?_; repeat first | exact Imp.refl _ | exact Imp.nil _ | (apply Imp.pull; focus ((repeat first | exact Del.head _ _ | apply Del.tail); done)) | (apply Imp.row; focus ((repeat first | exact Del.head _ _ | apply Del.tail); done)) | apply Imp.drop))
      rintro ⟨i, w, vt, vr⟩ g ⟨hil, hsw0, hlw0⟩
      try dsimp only
      refine T.seq ?_
      refine T.seq ?_
      refine T.reg ?_
      refine TO.p (DP.mv (by conv => lhs; whnf)) ?_
      refine TO.p (DP.mv (by conv => lhs; whnf)) ?_
      refine TO.p (DP.lenI hI rfl Tryd.underlying23) ?_
      refine TO.p ((by first | exact DP.lss rfl rfl | exact DP.lssI rfl rfl)) ?_
      refine TO.nil ?_
      refine TQ.nn ?_
      refine T.condD rfl (fun hc3 => ?_) (fun hc3 => ?_)
      · obtain ⟨t, ht⟩ := get_some (l := l) (i := i) (by omega)
        have htk := hok t (mem_of_get ht)
        obtain ⟨s1, s2, s3⟩ := hsm t (mem_of_get ht)
        obtain ⟨k1, _, k3, _, k5, k6, _, k8⟩ := htk
        have hao : t.a.ok := ⟨k1, by omega, k3, by omega, k5⟩
        have hw64 : w.length ≤ 64 := by have h5 : w.length ≤ most.toNat := hlw0; omega
        refine T.skip ?_
        refine TQ.nn ?_
        refine T.seq ?_
        refine T.block ?_
        refine T.seq ?_
        refine T.reg ?_
        refine TO.p (DP.mv (by conv => lhs; whnf)) ?_
        refine TO.p (DP.mv (by conv => lhs; whnf)) ?_
        refine TO.p (DP.iasH (n := l.length) (sz := 8) hI rfl rfl Tryd.underlying23 sz36 (by omega)) ?_
        refine TO.d (D.ldHA (us := stepV t) hI (by omega) (by conv => lhs; whnf) ag36 sz36 (by (repeat first | exact LMem.head _ _ | apply LMem.tail)) (flat_elem stepV_len ht) rfl) ?_
        refine TO.n (N.alA zr36) ?_
        rintro _ _ ⟨b15, rfl, rfl⟩
        refine TO.n0 (N.stA (vs := stepV t) rfl rfl sz36 (by (repeat first | exact Put.head _ _ _ | apply Put.tail)) (by simp [stepV]) (by simp [stepV, str, Value.oneCell']) (by rfl)) ?_
        rintro _ _ ⟨rfl, rfl⟩
        rw [show setAll _ 0 (stepV t) = stepV t from rfl]
        refine TO.nil ?_
        refine TQ.nn ?_
        refine T.cut (S := List Nr × Value × Value) (fun ⟨w2, vt2, vr2⟩ => [(0, str mac), (1, .int .u32 addr), (4, v), (11, .pointer (some ⟨p, 0, none⟩)), (13, .pointer (some ⟨r, 0, none⟩)), (14, .int .i64 (i : Nat)), (15, .pointer (some ⟨b15, 0, none⟩))]) (fun ⟨w2, vt2, vr2⟩ => old h :: row 36 b15 (stepV t) :: row 64 p (tabV (⟨mac, addr, most.toNat, life⟩ : Tb) vt2) :: sl 40 3 vt2 (w2).length ((w2).flatMap nearV) :: row 80 r (tabV (⟨mac, addr, most.toNat, life⟩ : Tb) vr2) :: sl 40 3 vr2 (w2).length ((w2).flatMap nearV) :: R) (fun ⟨w2, vt2, vr2⟩ => Srt w2 ∧ w2.length ≤ (⟨mac, addr, most.toNat, life⟩ : Tb).most) ?_ ?_
        · refine T.seq ?_
          refine T.reg ?_
          refine TO.p (DP.fa 0 rfl Tryd.underlying36 rfl rfl sz3) ?_
          refine TO.d (D.ldR (v := .int .i64 t.dd) rfl pl3 (by (repeat first | exact LMem.head _ _ | apply LMem.tail)) rfl) ?_
          refine TO.nil ?_
          refine TQ.nn ?_
          refine T.block ?_
          refine T.seq ?_
          refine T.reg ?_
          refine TO.p (DP.eqlI rfl rfl) ?_
          refine TO.p (DP.as (by conv => lhs; whnf)) ?_
          refine TO.nil ?_
          refine TQ.nn ?_
          refine T.condD rfl (fun hc4 => ?_) (fun hc4 => ?_)
          · refine T.seq ?_
            refine T.reg ?_
            refine TO.p (DP.mv (by conv => lhs; whnf)) ?_
            refine TO.p (DP.fa 1 rfl Tryd.underlying36 rfl rfl sz34) ?_
            refine TO.d (D.ldRM (vs := arV t.a) rfl ag34 sz34 (by (repeat first | exact LMem.head _ _ | apply LMem.tail)) (stepV_a t) rfl) ?_
            refine TO.p (DP.fa 8 rfl Tryd.underlying36 rfl rfl sz31) ?_
            refine TO.d (D.ldR (v := .int .u64 t.now) rfl pl31 (by (repeat first | exact LMem.head _ _ | apply LMem.tail)) rfl) ?_
            refine TO.n (N.callF (take_spec (⟨mac, addr, most.toNat, life⟩ : Tb) w vt p (by omega) t.a t.now hq hsw0 hao) Tryd.call11 ⟨rfl, rfl, rfl, trivial⟩ (by (repeat first | exact Pick.nil _ | (apply Pick.cons; focus ((repeat first | exact Del.head _ _ | apply Del.tail); done))))) ?_
            rintro u88 _ ⟨_, ⟨rfl, vt2, rfl⟩, rfl⟩
            try simp only [List.cons_append, List.nil_append]
            refine TO.p (DP.mv (by conv => lhs; whnf)) ?_
            refine TO.p (DP.ex rfl rfl) ?_
            refine TO.p (DP.ex rfl rfl) ?_
            refine TO.p (DP.ex rfl rfl) ?_
            refine TO.n (N.alA zr34) ?_
            rintro _ _ ⟨b16, rfl, rfl⟩
            refine TO.n0 (N.stA (vs := arV (takeE (⟨mac, addr, most.toNat, life⟩ : Tb) w t.a t.now).2.1) rfl rfl sz34 (by (repeat first | exact Put.head _ _ _ | apply Put.tail)) (by simp [frV, arV, fr0, ar0]) (by simp [frV, arV, fr0, ar0, str, Value.oneCell']) (by rfl)) ?_
            rintro _ _ ⟨rfl, rfl⟩
            rw [show setAll _ 0 (arV (takeE (⟨mac, addr, most.toNat, life⟩ : Tb) w t.a t.now).2.1) = arV (takeE (⟨mac, addr, most.toNat, life⟩ : Tb) w t.a t.now).2.1 from rfl]
            refine TO.p (DP.as (by conv => lhs; whnf)) ?_
            refine TO.p (DP.as (by conv => lhs; whnf)) ?_
            refine TO.nil ?_
            refine TQ.nn ?_
            refine T.seq ?_
            refine T.reg ?_
            refine TO.p (DP.mv (by conv => lhs; whnf)) ?_
            refine TO.p (DP.fa 1 rfl Tryd.underlying36 rfl rfl sz34) ?_
            refine TO.d (D.ldRM (vs := arV t.a) rfl ag34 sz34 (by (repeat first | exact LMem.head _ _ | apply LMem.tail)) (stepV_a t) rfl) ?_
            refine TO.p (DP.fa 8 rfl Tryd.underlying36 rfl rfl sz31) ?_
            refine TO.d (D.ldR (v := .int .u64 t.now) rfl pl31 (by (repeat first | exact LMem.head _ _ | apply LMem.tail)) rfl) ?_
            refine TO.n (N.callF (rtake_spec (⟨mac, addr, most.toNat, life⟩ : Tb) w vr r (by omega) t.a t.now hq hsw0 hao) Tryd.call28 ⟨rfl, rfl, rfl, trivial⟩ (by (repeat first | exact Pick.nil _ | (apply Pick.cons; focus ((repeat first | exact Del.head _ _ | apply Del.tail); done))))) ?_
            rintro u98 _ ⟨_, ⟨rfl, vr2, rfl⟩, rfl⟩
            try simp only [List.cons_append, List.nil_append]
            refine TO.p (DP.mv (by conv => lhs; whnf)) ?_
            refine TO.p (DP.ex rfl rfl) ?_
            refine TO.p (DP.ex rfl rfl) ?_
            refine TO.p (DP.ex rfl rfl) ?_
            refine TO.n (N.alA zr34) ?_
            rintro _ _ ⟨b19, rfl, rfl⟩
            refine TO.n0 (N.stA (vs := arV (takeE (⟨mac, addr, most.toNat, life⟩ : Tb) w t.a t.now).2.1) rfl rfl sz34 (by (repeat first | exact Put.head _ _ _ | apply Put.tail)) (by simp [frV, arV, fr0, ar0]) (by simp [frV, arV, fr0, ar0, str, Value.oneCell']) (by rfl)) ?_
            rintro _ _ ⟨rfl, rfl⟩
            rw [show setAll _ 0 (arV (takeE (⟨mac, addr, most.toNat, life⟩ : Tb) w t.a t.now).2.1) = arV (takeE (⟨mac, addr, most.toNat, life⟩ : Tb) w t.a t.now).2.1 from rfl]
            refine TO.p (DP.as (by conv => lhs; whnf)) ?_
            refine TO.p (DP.as (by conv => lhs; whnf)) ?_
            refine TO.nil ?_
            refine TQ.nn ?_
            refine T.seq ?_
            refine T.reg ?_
            refine TO.d (D.ldRA (cs := arV (takeE (⟨mac, addr, most.toNat, life⟩ : Tb) w t.a t.now).2.1) rfl ag34 sz34 (by (repeat first | exact LMem.head _ _ | apply LMem.tail)) rfl) ?_
            refine TO.d (D.ldRA (cs := arV (takeE (⟨mac, addr, most.toNat, life⟩ : Tb) w t.a t.now).2.1) rfl ag34 sz34 (by (repeat first | exact LMem.head _ _ | apply LMem.tail)) rfl) ?_
            refine TO.p (DP.to (v' := .bool false) (DP.neOf rfl rfl eg34 (fun w_ => eqAr (takeE (⟨mac, addr, most.toNat, life⟩ : Tb) w t.a t.now).2.1 (takeE (⟨mac, addr, most.toNat, life⟩ : Tb) w t.a t.now).2.1 w_)) (by simp)) ?_
            refine TO.p (DP.mv (by conv => lhs; whnf)) ?_
            refine TO.onP rfl (DP.mv (by conv => lhs; whnf)) ?_
            refine TO.onP rfl (DP.mv (by conv => lhs; whnf)) ?_
            refine TO.onP rfl (DP.to (v' := .bool false) (DP.bneq rfl rfl Tryd.underlying4) (by simp)) ?_
            refine TO.p (DP.pkF rfl (by conv => lhs; whnf)) ?_
            refine TO.p (DP.mv (by conv => lhs; whnf)) ?_
            refine TO.onP rfl (DP.mv (by conv => lhs; whnf)) ?_
            refine TO.onP rfl (DP.mv (by conv => lhs; whnf)) ?_
            refine TO.onP rfl (DP.to (v' := .bool false) (DP.neq (a := (takeE (⟨mac, addr, most.toNat, life⟩ : Tb) w t.a t.now).2.2.2) (b := (takeE (⟨mac, addr, most.toNat, life⟩ : Tb) w t.a t.now).2.2.2) rfl rfl) (by simp)) ?_
            refine TO.p (DP.pkF rfl (by conv => lhs; whnf)) ?_
            refine TO.nil ?_
            refine TQ.nn ?_
            refine T.condF rfl ?_
            refine T.skip ?_
            refine TQ.bn ?_
            refine TQ.cn ((takeE (⟨mac, addr, most.toNat, life⟩ : Tb) w t.a t.now).1, vt2, vr2) rfl ?_ ?_ ?_
            · (repeat first | exact trivial | refine ⟨rfl, ?_⟩)
            · (first | exact ⟨take_srt hsw0, take_len hlw0⟩ | exact ⟨learn_srt hsw0, learn_len hlw0⟩ | exact ⟨look_srt hsw0, Nat.le_trans (look_len _ _ _) hlw0⟩ | exact ⟨hsw0, hlw0⟩)
            · (dsimp only; (refine Ent.imp ?_; repeat first | exact Imp.refl _ | exact Imp.nil _ | (apply Imp.pull; focus ((repeat first | exact Del.head _ _ | apply Del.tail); done)) | (apply Imp.row; focus ((repeat first | exact Del.head _ _ | apply Del.tail); done)) | apply Imp.drop))
          · refine T.seq ?_
            refine T.reg ?_
            refine TO.p (DP.eqlI rfl rfl) ?_
            refine TO.p (DP.as (by conv => lhs; whnf)) ?_
            refine TO.nil ?_
            refine TQ.nn ?_
            refine T.condD rfl (fun hc6 => ?_) (fun hc6 => ?_)
            · refine T.seq ?_
              refine T.draw ([row 36 b15 (stepV t)]) [15] mixed (by repeat first | exact Calm.rt | apply Calm.t | apply Calm.b | apply Calm.l | apply Calm.ct) ?_
              refine TR.p 0 rfl (by kernel_rfl) (DP.mv (by conv => lhs; whnf)) ?_
              refine TR.p 1 rfl (by kernel_rfl) (DP.fa 6 rfl Tryd.underlying36 rfl rfl sz26) ?_
              refine TR.d 2 rfl (by kernel_rfl) (by kernel_rfl) (by (refine Ent.imp ?_; repeat first | exact Imp.refl _ | exact Imp.nil _ | (apply Imp.pull; focus ((repeat first | exact Del.head _ _ | apply Del.tail); done)) | (apply Imp.row; focus ((repeat first | exact Del.head _ _ | apply Del.tail); done)) | apply Imp.drop)) (D.ldR (v := .int .u32 t.addr) rfl pl26 (by (repeat first | exact LMem.head _ _ | apply LMem.tail)) rfl) ?_
              refine TR.p 3 rfl (by kernel_rfl) (DP.fa 7 rfl Tryd.underlying36 rfl rfl sz9) ?_
              refine TR.d 4 rfl (by kernel_rfl) (by kernel_rfl) (by (refine Ent.imp ?_; repeat first | exact Imp.refl _ | exact Imp.nil _ | (apply Imp.pull; focus ((repeat first | exact Del.head _ _ | apply Del.tail); done)) | (apply Imp.row; focus ((repeat first | exact Del.head _ _ | apply Del.tail); done)) | apply Imp.drop)) (D.ldR (v := str t.mac) rfl pl9 (by (repeat first | exact LMem.head _ _ | apply LMem.tail)) rfl) ?_
              refine TR.p 5 rfl (by kernel_rfl) (DP.fa 8 rfl Tryd.underlying36 rfl rfl sz31) ?_
              refine TR.d 6 rfl (by kernel_rfl) (by kernel_rfl) (by (refine Ent.imp ?_; repeat first | exact Imp.refl _ | exact Imp.nil _ | (apply Imp.pull; focus ((repeat first | exact Del.head _ _ | apply Del.tail); done)) | (apply Imp.row; focus ((repeat first | exact Del.head _ _ | apply Del.tail); done)) | apply Imp.drop)) (D.ldR (v := .int .u64 t.now) rfl pl31 (by (repeat first | exact LMem.head _ _ | apply LMem.tail)) rfl) ?_
              refine TR.p 8 rfl (by kernel_rfl) (DP.mv (by conv => lhs; whnf)) ?_
              refine TR.p 9 rfl (by kernel_rfl) (DP.fa 6 rfl Tryd.underlying36 rfl rfl sz26) ?_
              refine TR.d 10 rfl (by kernel_rfl) (by kernel_rfl) (by (refine Ent.imp ?_; repeat first | exact Imp.refl _ | exact Imp.nil _ | (apply Imp.pull; focus ((repeat first | exact Del.head _ _ | apply Del.tail); done)) | (apply Imp.row; focus ((repeat first | exact Del.head _ _ | apply Del.tail); done)) | apply Imp.drop)) (D.ldR (v := .int .u32 t.addr) rfl pl26 (by (repeat first | exact LMem.head _ _ | apply LMem.tail)) rfl) ?_
              refine TR.p 11 rfl (by kernel_rfl) (DP.fa 7 rfl Tryd.underlying36 rfl rfl sz9) ?_
              refine TR.d 12 rfl (by kernel_rfl) (by kernel_rfl) (by (refine Ent.imp ?_; repeat first | exact Imp.refl _ | exact Imp.nil _ | (apply Imp.pull; focus ((repeat first | exact Del.head _ _ | apply Del.tail); done)) | (apply Imp.row; focus ((repeat first | exact Del.head _ _ | apply Del.tail); done)) | apply Imp.drop)) (D.ldR (v := str t.mac) rfl pl9 (by (repeat first | exact LMem.head _ _ | apply LMem.tail)) rfl) ?_
              refine TR.p 13 rfl (by kernel_rfl) (DP.fa 8 rfl Tryd.underlying36 rfl rfl sz31) ?_
              refine TR.d 14 rfl (by kernel_rfl) (by kernel_rfl) (by (refine Ent.imp ?_; repeat first | exact Imp.refl _ | exact Imp.nil _ | (apply Imp.pull; focus ((repeat first | exact Del.head _ _ | apply Del.tail); done)) | (apply Imp.row; focus ((repeat first | exact Del.head _ _ | apply Del.tail); done)) | apply Imp.drop)) (D.ldR (v := .int .u64 t.now) rfl pl31 (by (repeat first | exact LMem.head _ _ | apply LMem.tail)) rfl) ?_
              refine TR.n 7 (by kernel_rfl) rfl (N.callF (learn_spec (⟨mac, addr, most.toNat, life⟩ : Tb) w vt p (by omega) t.addr t.mac t.now hq hsw0 k6 (by omega)) Tryd.call12 ⟨rfl, rfl, rfl, rfl, trivial⟩ (by (repeat first | exact Pick.nil _ | (apply Pick.cons; focus ((repeat first | exact Del.head _ _ | apply Del.tail); done))))) ?_
              rintro u124 _ ⟨_, ⟨rfl, vt2, rfl⟩, rfl⟩
              try simp only [List.cons_append, List.nil_append]
              refine ⟨.inr (by (refine Ent.imp ?_; repeat first | exact Imp.refl _ | exact Imp.nil _ | (apply Imp.pull; focus ((repeat first | exact Del.head _ _ | apply Del.tail); done)) | (apply Imp.row; focus ((repeat first | exact Del.head _ _ | apply Del.tail); done)) | apply Imp.drop)), ?_⟩
              refine TR.n 15 (by kernel_rfl) rfl (N.callF (rlearn_spec (⟨mac, addr, most.toNat, life⟩ : Tb) w vr r (by omega) t.addr t.mac t.now hq hsw0 k6 (by omega)) Tryd.call29 ⟨rfl, rfl, rfl, rfl, trivial⟩ (by (repeat first | exact Pick.nil _ | (apply Pick.cons; focus ((repeat first | exact Del.head _ _ | apply Del.tail); done))))) ?_
              rintro u132 _ ⟨_, ⟨rfl, vr2, rfl⟩, rfl⟩
              try simp only [List.cons_append, List.nil_append]
              refine ⟨.inl rfl, ?_⟩
              refine TR.p 16 rfl (by kernel_rfl) (DP.to (v' := .bool false) (DP.neq (a := (learnE (⟨mac, addr, most.toNat, life⟩ : Tb) w t.addr t.mac t.now).2) (b := (learnE (⟨mac, addr, most.toNat, life⟩ : Tb) w t.addr t.mac t.now).2) rfl rfl) (by simp)) ?_
              refine TR.done (by kernel_rfl) ?_
              refine TQ.nn ?_
              refine T.condF rfl ?_
              refine T.skip ?_
              refine TQ.bn ?_
              refine TQ.cn ((learnE (⟨mac, addr, most.toNat, life⟩ : Tb) w t.addr t.mac t.now).1, vt2, vr2) rfl ?_ ?_ ?_
              · (repeat first | exact trivial | refine ⟨rfl, ?_⟩)
              · (first | exact ⟨take_srt hsw0, take_len hlw0⟩ | exact ⟨learn_srt hsw0, learn_len hlw0⟩ | exact ⟨look_srt hsw0, Nat.le_trans (look_len _ _ _) hlw0⟩ | exact ⟨hsw0, hlw0⟩)
              · (dsimp only; (refine Ent.imp ?_; repeat first | exact Imp.refl _ | exact Imp.nil _ | (apply Imp.pull; focus ((repeat first | exact Del.head _ _ | apply Del.tail); done)) | (apply Imp.row; focus ((repeat first | exact Del.head _ _ | apply Del.tail); done)) | apply Imp.drop))
            · refine T.seq ?_
              refine T.reg ?_
              refine TO.p (DP.eqlI rfl rfl) ?_
              refine TO.p (DP.as (by conv => lhs; whnf)) ?_
              refine TO.nil ?_
              refine TQ.nn ?_
              refine T.condD rfl (fun hc8 => ?_) (fun hc8 => ?_)
              · refine T.seq ?_
                refine T.reg ?_
                refine TO.p (DP.mv (by conv => lhs; whnf)) ?_
                refine TO.p (DP.fa 6 rfl Tryd.underlying36 rfl rfl sz26) ?_
                refine TO.d (D.ldR (v := .int .u32 t.addr) rfl pl26 (by (repeat first | exact LMem.head _ _ | apply LMem.tail)) rfl) ?_
                refine TO.p (DP.fa 8 rfl Tryd.underlying36 rfl rfl sz31) ?_
                refine TO.d (D.ldR (v := .int .u64 t.now) rfl pl31 (by (repeat first | exact LMem.head _ _ | apply LMem.tail)) rfl) ?_
                refine TO.n (N.callF (look_spec (⟨mac, addr, most.toNat, life⟩ : Tb) w vt p (by omega) t.addr t.now hsw0) Tryd.call14 ⟨rfl, rfl, rfl, trivial⟩ (by (repeat first | exact Pick.nil _ | (apply Pick.cons; focus ((repeat first | exact Del.head _ _ | apply Del.tail); done))))) ?_
                rintro u142 _ ⟨_, ⟨rfl, vt2, rfl⟩, rfl⟩
                try simp only [List.cons_append, List.nil_append]
                refine TO.p (DP.mv (by conv => lhs; whnf)) ?_
                refine TO.p (DP.ex rfl rfl) ?_
                refine TO.p (DP.ex rfl rfl) ?_
                refine TO.p (DP.as (by conv => lhs; whnf)) ?_
                refine TO.p (DP.as (by conv => lhs; whnf)) ?_
                refine TO.nil ?_
                refine TQ.nn ?_
                refine T.seq ?_
                refine T.reg ?_
                refine TO.p (DP.mv (by conv => lhs; whnf)) ?_
                refine TO.p (DP.fa 6 rfl Tryd.underlying36 rfl rfl sz26) ?_
                refine TO.d (D.ldR (v := .int .u32 t.addr) rfl pl26 (by (repeat first | exact LMem.head _ _ | apply LMem.tail)) rfl) ?_
                refine TO.p (DP.fa 8 rfl Tryd.underlying36 rfl rfl sz31) ?_
                refine TO.d (D.ldR (v := .int .u64 t.now) rfl pl31 (by (repeat first | exact LMem.head _ _ | apply LMem.tail)) rfl) ?_
                refine TO.n (N.callF (rlook_spec (⟨mac, addr, most.toNat, life⟩ : Tb) w vr r (by omega) t.addr t.now hsw0) Tryd.call30 ⟨rfl, rfl, rfl, trivial⟩ (by (repeat first | exact Pick.nil _ | (apply Pick.cons; focus ((repeat first | exact Del.head _ _ | apply Del.tail); done))))) ?_
                rintro u151 _ ⟨_, ⟨rfl, vr2, rfl⟩, rfl⟩
                try simp only [List.cons_append, List.nil_append]
                refine TO.p (DP.mv (by conv => lhs; whnf)) ?_
                refine TO.p (DP.ex rfl rfl) ?_
                refine TO.p (DP.ex rfl rfl) ?_
                refine TO.p (DP.as (by conv => lhs; whnf)) ?_
                refine TO.p (DP.as (by conv => lhs; whnf)) ?_
                refine TO.nil ?_
                refine TQ.nn ?_
                refine T.seq ?_
                refine T.reg ?_
                refine TO.p (DP.mv (by conv => lhs; whnf)) ?_
                refine TO.p (DP.mv (by conv => lhs; whnf)) ?_
                refine TO.p (DP.to (v' := .bool false) (DP.tneq (l := (lookE w t.addr t.now).2.1) (m := (lookE w t.addr t.now).2.1) rfl rfl) (by simp)) ?_
                refine TO.p (DP.mv (by conv => lhs; whnf)) ?_
                refine TO.onP rfl (DP.mv (by conv => lhs; whnf)) ?_
                refine TO.onP rfl (DP.mv (by conv => lhs; whnf)) ?_
                refine TO.onP rfl (DP.to (v' := .bool false) (DP.neq (a := (lookE w t.addr t.now).2.2) (b := (lookE w t.addr t.now).2.2) rfl rfl) (by simp)) ?_
                refine TO.p (DP.pkF rfl (by conv => lhs; whnf)) ?_
                refine TO.nil ?_
                refine TQ.nn ?_
                refine T.condF rfl ?_
                refine T.skip ?_
                refine TQ.bn ?_
                refine TQ.cn ((lookE w t.addr t.now).1, vt2, vr2) rfl ?_ ?_ ?_
                · (repeat first | exact trivial | refine ⟨rfl, ?_⟩)
                · (first | exact ⟨take_srt hsw0, take_len hlw0⟩ | exact ⟨learn_srt hsw0, learn_len hlw0⟩ | exact ⟨look_srt hsw0, Nat.le_trans (look_len _ _ _) hlw0⟩ | exact ⟨hsw0, hlw0⟩)
                · (dsimp only; (refine Ent.imp ?_; repeat first | exact Imp.refl _ | exact Imp.nil _ | (apply Imp.pull; focus ((repeat first | exact Del.head _ _ | apply Del.tail); done)) | (apply Imp.row; focus ((repeat first | exact Del.head _ _ | apply Del.tail); done)) | apply Imp.drop))
              · refine T.skip ?_
                refine TQ.bn ?_
                refine TQ.cn (w, vt, vr) rfl ?_ ?_ ?_
                · (repeat first | exact trivial | refine ⟨rfl, ?_⟩)
                · (first | exact ⟨take_srt hsw0, take_len hlw0⟩ | exact ⟨learn_srt hsw0, learn_len hlw0⟩ | exact ⟨look_srt hsw0, Nat.le_trans (look_len _ _ _) hlw0⟩ | exact ⟨hsw0, hlw0⟩)
                · (dsimp only; (refine Ent.imp ?_; repeat first | exact Imp.refl _ | exact Imp.nil _ | (apply Imp.pull; focus ((repeat first | exact Del.head _ _ | apply Del.tail); done)) | (apply Imp.row; focus ((repeat first | exact Del.head _ _ | apply Del.tail); done)) | apply Imp.drop))
        rintro ⟨w2, vt2, vr2⟩ g ⟨hsw, hlw⟩
        try dsimp only
        refine T.seq ?_
        have hw64b : w2.length ≤ 64 := by have h5 : w2.length ≤ most.toNat := hlw; omega
        have hw3 := near_len w2 t.now
        have hs3 : Srt (nearE w2 t.now) := near_srt hsw
        refine T.draw ([row 36 b15 (stepV t)]) [7] mixed (by repeat first | exact Calm.rt | apply Calm.t | apply Calm.b | apply Calm.l | apply Calm.ct) ?_
        refine TR.p 0 rfl (by kernel_rfl) (DP.mv (by conv => lhs; whnf)) ?_
        refine TR.p 1 rfl (by kernel_rfl) (DP.fa 8 rfl Tryd.underlying36 rfl rfl sz31) ?_
        refine TR.d 2 rfl (by kernel_rfl) (by kernel_rfl) (by (refine Ent.imp ?_; repeat first | exact Imp.refl _ | exact Imp.nil _ | (apply Imp.pull; focus ((repeat first | exact Del.head _ _ | apply Del.tail); done)) | (apply Imp.row; focus ((repeat first | exact Del.head _ _ | apply Del.tail); done)) | apply Imp.drop)) (D.ldR (v := .int .u64 t.now) rfl pl31 (by (repeat first | exact LMem.head _ _ | apply LMem.tail)) rfl) ?_
        refine TR.p 4 rfl (by kernel_rfl) (DP.mv (by conv => lhs; whnf)) ?_
        refine TR.p 5 rfl (by kernel_rfl) (DP.fa 8 rfl Tryd.underlying36 rfl rfl sz31) ?_
        refine TR.d 6 rfl (by kernel_rfl) (by kernel_rfl) (by (refine Ent.imp ?_; repeat first | exact Imp.refl _ | exact Imp.nil _ | (apply Imp.pull; focus ((repeat first | exact Del.head _ _ | apply Del.tail); done)) | (apply Imp.row; focus ((repeat first | exact Del.head _ _ | apply Del.tail); done)) | apply Imp.drop)) (D.ldR (v := .int .u64 t.now) rfl pl31 (by (repeat first | exact LMem.head _ _ | apply LMem.tail)) rfl) ?_
        refine TR.n 3 (by kernel_rfl) rfl (N.callF (near_spec (⟨mac, addr, most.toNat, life⟩ : Tb) w2 vt2 p (by omega) t.now) Tryd.call13 ⟨rfl, rfl, trivial⟩ (by (repeat first | exact Pick.nil _ | (apply Pick.cons; focus ((repeat first | exact Del.head _ _ | apply Del.tail); done))))) ?_
        rintro u165 _ ⟨_, ⟨vt3, rfl⟩, rfl⟩
        try simp only [List.cons_append, List.nil_append]
        refine ⟨.inr (by (refine Ent.imp ?_; repeat first | exact Imp.refl _ | exact Imp.nil _ | (apply Imp.pull; focus ((repeat first | exact Del.head _ _ | apply Del.tail); done)) | (apply Imp.row; focus ((repeat first | exact Del.head _ _ | apply Del.tail); done)) | apply Imp.drop)), ?_⟩
        refine TR.n 7 (by kernel_rfl) rfl (N.callF (rnear_spec (⟨mac, addr, most.toNat, life⟩ : Tb) w2 vr2 r (by omega) t.now) Tryd.call31 ⟨rfl, rfl, trivial⟩ (by (repeat first | exact Pick.nil _ | (apply Pick.cons; focus ((repeat first | exact Del.head _ _ | apply Del.tail); done))))) ?_
        rintro u169 _ ⟨_, rfl, rfl⟩
        try simp only [List.cons_append, List.nil_append]
        refine ⟨.inl rfl, ?_⟩
        refine TR.p 8 rfl (by kernel_rfl) (DP.as (by conv => lhs; whnf)) ?_
        refine TR.p 9 rfl (by kernel_rfl) (DP.as (by conv => lhs; whnf)) ?_
        refine TR.done (by kernel_rfl) ?_
        refine TQ.nn ?_
        refine T.seq ?_
        refine T.seq ?_
        refine T.reg ?_
        refine TO.p (DP.mv (by conv => lhs; whnf)) ?_
        refine TO.d (D.lenO (by conv => lhs; whnf) Tryd.underlying32 (by (repeat first | exact LMem.head _ _ | apply LMem.tail))) ?_
        refine TO.p (DP.mv (by conv => lhs; whnf)) ?_
        refine TO.d (D.lenO (by conv => lhs; whnf) Tryd.underlying32 (by (repeat first | exact LMem.head _ _ | apply LMem.tail))) ?_
        refine TO.p (DP.to (v' := .bool false) (DP.neq (a := (nearE w2 t.now).length) (b := (nearE w2 t.now).length) rfl rfl) (by simp)) ?_
        refine TO.nil ?_
        refine TQ.nn ?_
        refine T.condF rfl ?_
        refine T.skip ?_
        refine TQ.nn ?_
        refine T.seq ?_
        refine T.seq ?_
        refine T.reg ?_
        refine TO.p (DP.as (by conv => lhs; whnf)) ?_
        refine TO.nil ?_
        refine TQ.nn ?_
        refine T.block ?_
        refine T.loop (S := Nat) 0 (fun k => [(0, str mac), (1, .int .u32 addr), (4, v), (11, .pointer (some ⟨p, 0, none⟩)), (13, .pointer (some ⟨r, 0, none⟩)), (14, .int .i64 (i : Nat)), (15, .pointer (some ⟨b15, 0, none⟩)), (26, u165), (27, u169), (28, .int .i64 (k : Nat))]) (fun k => old h :: row 36 b15 (stepV t) :: row 64 p (tabV (⟨mac, addr, most.toNat, life⟩ : Tb) vt3) :: sl 40 3 vt3 (nearE w2 t.now).length ((nearE w2 t.now).flatMap nearV) :: sl 40 3 u165 (nearE w2 t.now).length ((nearE w2 t.now).flatMap nearV) :: row 80 r (tabV (⟨mac, addr, most.toNat, life⟩ : Tb) u169) :: sl 40 3 u169 (nearE w2 t.now).length ((nearE w2 t.now).flatMap nearV) :: R) (fun k => k ≤ (nearE w2 t.now).length) (fun k => (nearE w2 t.now).length - k) ?_ ?_ ?_ ?_
        · (repeat first | exact trivial | refine ⟨rfl, ?_⟩)
        · exact Nat.zero_le _
        · (refine Ent.imp ?_; repeat first | exact Imp.refl _ | exact Imp.nil _ | (apply Imp.pull; focus ((repeat first | exact Del.head _ _ | apply Del.tail); done)) | (apply Imp.row; focus ((repeat first | exact Del.head _ _ | apply Del.tail); done)) | apply Imp.drop)
        rintro k g hI
        refine T.seq ?_
        refine T.seq ?_
        refine T.reg ?_
        refine TO.p (DP.mv (by conv => lhs; whnf)) ?_
        refine TO.p (DP.mv (by conv => lhs; whnf)) ?_
        refine TO.d (D.lenO (by conv => lhs; whnf) Tryd.underlying32 (by (repeat first | exact LMem.head _ _ | apply LMem.tail))) ?_
        refine TO.p ((by first | exact DP.lss rfl rfl | exact DP.lssI rfl rfl)) ?_
        refine TO.nil ?_
        refine TQ.nn ?_
        refine T.condD rfl (fun hc11 => ?_) (fun hc11 => ?_)
        · obtain ⟨s, hk⟩ := get_some (l := nearE w2 t.now) (i := k) (by omega)
          refine T.skip ?_
          refine TQ.nn ?_
          refine T.seq ?_
          refine T.block ?_
          refine T.seq ?_
          refine T.drawL [] mixed (by repeat first | exact Calm.rt | apply Calm.t | apply Calm.b | apply Calm.l | apply Calm.ct) ?_
          refine TR.p 0 rfl (by kernel_rfl) (DP.mv (by conv => lhs; whnf)) ?_
          refine TR.p 1 rfl (by kernel_rfl) (DP.mv (by conv => lhs; whnf)) ?_
          refine TR.d 2 rfl (by kernel_rfl) (by kernel_rfl) (by (refine Ent.imp ?_; repeat first | exact Imp.refl _ | exact Imp.nil _ | (apply Imp.pull; focus ((repeat first | exact Del.head _ _ | apply Del.tail); done)) | (apply Imp.row; focus ((repeat first | exact Del.head _ _ | apply Del.tail); done)) | apply Imp.drop)) (D.iasO (i := k) rfl rfl Tryd.underlying32 sz40 (by (repeat first | exact LMem.head _ _ | apply LMem.tail)) (by omega)) ?_
          refine TR.d 3 rfl (by kernel_rfl) (by kernel_rfl) (by (refine Ent.imp ?_; repeat first | exact Imp.refl _ | exact Imp.nil _ | (apply Imp.pull; focus ((repeat first | exact Del.head _ _ | apply Del.tail); done)) | (apply Imp.row; focus ((repeat first | exact Del.head _ _ | apply Del.tail); done)) | apply Imp.drop)) (D.ldOA (i := k) (us := nearV s) (by conv => lhs; whnf) ag40 sz40 (by (repeat first | exact LMem.head _ _ | apply LMem.tail)) (by omega) (flat_elem nearV_len hk) (nearV_len s)) ?_
          refine TR.p 4 rfl (by kernel_rfl) (DP.mv (by conv => lhs; whnf)) ?_
          refine TR.p 5 rfl (by kernel_rfl) (DP.mv (by conv => lhs; whnf)) ?_
          refine TR.d 6 rfl (by kernel_rfl) (by kernel_rfl) (by (refine Ent.imp ?_; repeat first | exact Imp.refl _ | exact Imp.nil _ | (apply Imp.pull; focus ((repeat first | exact Del.head _ _ | apply Del.tail); done)) | (apply Imp.row; focus ((repeat first | exact Del.head _ _ | apply Del.tail); done)) | apply Imp.drop)) (D.iasO (i := k) rfl rfl Tryd.underlying32 sz40 (by (repeat first | exact LMem.head _ _ | apply LMem.tail)) (by omega)) ?_
          refine TR.d 7 rfl (by kernel_rfl) (by kernel_rfl) (by (refine Ent.imp ?_; repeat first | exact Imp.refl _ | exact Imp.nil _ | (apply Imp.pull; focus ((repeat first | exact Del.head _ _ | apply Del.tail); done)) | (apply Imp.row; focus ((repeat first | exact Del.head _ _ | apply Del.tail); done)) | apply Imp.drop)) (D.ldOA (i := k) (us := nearV s) (by conv => lhs; whnf) ag40 sz40 (by (repeat first | exact LMem.head _ _ | apply LMem.tail)) (by omega) (flat_elem nearV_len hk) (nearV_len s)) ?_
          refine TR.p 8 rfl (by kernel_rfl) (DP.to (v' := .bool false) (DP.neOf rfl rfl eg40 (fun w_ => eqNr s s w_)) (by simp)) ?_
          refine TR.done (by kernel_rfl) ?_
          refine TQ.nn ?_
          refine T.condF rfl ?_
          refine T.skip ?_
          refine TQ.bn ?_
          refine TQ.nn ?_
          refine T.reg ?_
          refine TO.p (DP.mv (by conv => lhs; whnf)) ?_
          refine TO.p ((by first | exact DP.add (b := 1) rfl rfl (l := 9223372036854775808) rfl (by omega) | exact DP.addX rfl rfl)) ?_
          refine TO.p (DP.as (by conv => lhs; whnf)) ?_
          refine TO.nil ?_
          refine TQ.round (k + 1) rfl ?_ ?_ ?_ ?_
          · (repeat first | exact trivial | refine ⟨rfl, ?_⟩)
          · omega
          · omega
          · (refine Ent.imp ?_; repeat first | exact Imp.refl _ | exact Imp.nil _ | (apply Imp.pull; focus ((repeat first | exact Del.head _ _ | apply Del.tail); done)) | (apply Imp.row; focus ((repeat first | exact Del.head _ _ | apply Del.tail); done)) | apply Imp.drop)
        · refine T.exit ?_
          refine TQ.ne ?_
          refine TQ.le ?_
          refine TQ.be ?_
          refine TQ.nn ?_
          refine T.seq ?_
          refine T.reg ?_
          refine TO.p (DP.mv (by conv => lhs; whnf)) ?_
          refine TO.p (DP.fa 6 rfl Tryd.underlying36 rfl rfl sz26) ?_
          refine TO.d (D.ldR (v := .int .u32 t.addr) rfl pl26 (by (repeat first | exact LMem.head _ _ | apply LMem.tail)) rfl) ?_
          refine TO.n (N.callF (ask_spec (⟨mac, addr, most.toNat, life⟩ : Tb) (nearE w2 t.now) vt3 p (by omega) t.addr) Tryd.call32 ⟨rfl, rfl, trivial⟩ (by (repeat first | exact Pick.nil _ | (apply Pick.cons; focus ((repeat first | exact Del.head _ _ | apply Del.tail); done))))) ?_
          rintro u193 _ ⟨_, ⟨rfl, rfl⟩, rfl⟩
          try simp only [List.cons_append, List.nil_append]
          refine TO.n (N.alA zr34) ?_
          rintro _ _ ⟨b29, rfl, rfl⟩
          refine TO.n0 (N.stA (vs := arV ⟨1, mac, addr, List.replicate 6 0, t.addr⟩) rfl rfl sz34 (by (repeat first | exact Put.head _ _ _ | apply Put.tail)) (by simp [frV, arV, fr0, ar0]) (by simp [frV, arV, fr0, ar0, str, Value.oneCell']) (by rfl)) ?_
          rintro _ _ ⟨rfl, rfl⟩
          rw [show setAll _ 0 (arV ⟨1, mac, addr, List.replicate 6 0, t.addr⟩) = arV ⟨1, mac, addr, List.replicate 6 0, t.addr⟩ from rfl]
          refine TO.nil ?_
          refine TQ.nn ?_
          refine T.seq ?_
          refine T.drawL [] mixed (by repeat first | exact Calm.rt | apply Calm.t | apply Calm.b | apply Calm.l | apply Calm.ct) ?_
          refine TR.d 0 rfl (by kernel_rfl) (by kernel_rfl) (by (refine Ent.imp ?_; repeat first | exact Imp.refl _ | exact Imp.nil _ | (apply Imp.pull; focus ((repeat first | exact Del.head _ _ | apply Del.tail); done)) | (apply Imp.row; focus ((repeat first | exact Del.head _ _ | apply Del.tail); done)) | apply Imp.drop)) (D.ldRA (cs := arV ⟨1, mac, addr, List.replicate 6 0, t.addr⟩) rfl ag34 sz34 (by (repeat first | exact LMem.head _ _ | apply LMem.tail)) rfl) ?_
          refine TR.p 1 rfl (by kernel_rfl) (DP.mv (by conv => lhs; whnf)) ?_
          refine TR.p 2 rfl (by kernel_rfl) (DP.mv (by conv => lhs; whnf)) ?_
          refine TR.p 5 rfl (by kernel_rfl) (DP.fa 6 rfl Tryd.underlying36 rfl rfl sz26) ?_
          refine TR.d 6 rfl (by kernel_rfl) (by kernel_rfl) (by (refine Ent.imp ?_; repeat first | exact Imp.refl _ | exact Imp.nil _ | (apply Imp.pull; focus ((repeat first | exact Del.head _ _ | apply Del.tail); done)) | (apply Imp.row; focus ((repeat first | exact Del.head _ _ | apply Del.tail); done)) | apply Imp.drop)) (D.ldR (v := .int .u32 t.addr) rfl pl26 (by (repeat first | exact LMem.head _ _ | apply LMem.tail)) rfl) ?_
          refine TR.n 3 (by kernel_rfl) rfl (N.mk (n := 6) rfl rfl Tryd.underlying60 sz5 by5 zr5 rfl rfl (by omega)) ?_
          rintro _ _ ⟨b197, rfl, rfl⟩
          refine ⟨.inr (by (refine Ent.imp ?_; repeat first | exact Imp.refl _ | exact Imp.nil _ | (apply Imp.pull; focus ((repeat first | exact Del.head _ _ | apply Del.tail); done)) | (apply Imp.row; focus ((repeat first | exact Del.head _ _ | apply Del.tail); done)) | apply Imp.drop)), ?_⟩
          refine TR.n 4 (by kernel_rfl) rfl (D.n (D.cbs (l := List.replicate (6) 0) (A := row 5 b197 (List.replicate (6) [Value.int .u8 0]).flatten) rfl Tryd.underlying60 Tryd.underlying9 Tryd.underlying5 (by simp) (by (repeat first | exact LMem.head _ _ | apply LMem.tail)) (ReadsN.row (fun j v hv => by rw [Nat.zero_add, ← hv]; rfl)))) ?_
          rintro _ _ ⟨rfl, rfl⟩
          refine ⟨.inr (by (refine Ent.imp ?_; repeat first | exact Imp.refl _ | exact Imp.nil _ | (apply Imp.pull; focus ((repeat first | exact Del.head _ _ | apply Del.tail); done)) | (apply Imp.row; focus ((repeat first | exact Del.head _ _ | apply Del.tail); done)) | apply Imp.drop)), ?_⟩
          refine TR.p 7 rfl (by kernel_rfl) (DP.bdL (vs := [(0, _), (1, _), (2, _), (3, _), (4, _)]) (us := arV ⟨1, mac, addr, List.replicate 6 0, t.addr⟩) ⟨rfl, rfl, rfl, rfl, rfl, rfl, rfl, rfl, rfl, rfl, trivial⟩ pc34 zr34 rfl) ?_
          refine TR.p 8 rfl (by kernel_rfl) (DP.to (v' := .bool false) (DP.neOf rfl rfl eg34 (fun w_ => eqAr ⟨1, mac, addr, List.replicate 6 0, t.addr⟩ ⟨1, mac, addr, List.replicate 6 0, t.addr⟩ w_)) (by simp)) ?_
          refine TR.done (by kernel_rfl) ?_
          refine TQ.nn ?_
          refine T.condF rfl ?_
          refine T.skip ?_
          refine TQ.bn ?_
          refine TQ.nn ?_
          refine T.reg ?_
          refine TO.p (DP.mv (by conv => lhs; whnf)) ?_
          refine TO.p ((by first | exact DP.add (b := 1) rfl rfl (l := 9223372036854775808) rfl (by omega) | exact DP.addX rfl rfl)) ?_
          refine TO.p (DP.as (by conv => lhs; whnf)) ?_
          refine TO.nil ?_
          refine TQ.round (i + 1, nearE w2 t.now, vt3, u169) rfl ?_ ?_ ?_ ?_
          · (repeat first | exact trivial | refine ⟨rfl, ?_⟩)
          · exact ⟨by omega, hs3, Nat.le_trans hw3 hlw⟩
          · (show l.length - (i + 1) < l.length - i; omega)
          · (dsimp only; (refine Ent.imp ?_; repeat first | exact Imp.refl _ | exact Imp.nil _ | (apply Imp.pull; focus ((repeat first | exact Del.head _ _ | apply Del.tail); done)) | (apply Imp.row; focus ((repeat first | exact Del.head _ _ | apply Del.tail); done)) | apply Imp.drop))
      · refine T.exit ?_
        refine TQ.ne ?_
        refine TQ.le ?_
        refine TQ.be ?_
        refine TQ.nn ?_
        refine T.seq ?_
        refine T.reg ?_
        refine TO.n (N.callF (works_spec) Tryd.call9 trivial (by (repeat first | exact Pick.nil _ | (apply Pick.cons; focus ((repeat first | exact Del.head _ _ | apply Del.tail); done))))) ?_
        rintro u203 _ ⟨_, ⟨rfl, rfl⟩, rfl⟩
        try simp only [List.cons_append, List.nil_append]
        refine TO.p (DP.as (by conv => lhs; whnf)) ?_
        refine TO.nil ?_
        refine TQ.nn ?_
        refine T.ret ?_
        refine TQ.ret (vs := [.bool true]) (L' := [old h]) rfl ⟨rfl, rfl⟩ ⟨rfl, rfl⟩ (by (refine Ent.imp ?_; repeat first | exact Imp.refl _ | exact Imp.nil _ | (apply Imp.pull; focus ((repeat first | exact Del.head _ _ | apply Del.tail); done)) | (apply Imp.row; focus ((repeat first | exact Del.head _ _ | apply Del.tail); done)) | apply Imp.drop))
end Go.Proofs.YtbandaebilkkkaaDoor
