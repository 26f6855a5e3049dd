/- Lemmas for the proofs of this seat: no statement of the seat is claimed here. -/
import Derived.Test.YtbandaebilkkkaaDoorK10
set_option linter.all false
namespace Go.Proofs.YtbandaebilkkkaaDoor
open Go Pw
set_option maxRecDepth 20000
set_option maxHeartbeats 4000000
theorem ag80 : aggT Tryd.prog 80 = true := by kernel_rfl
theorem pc80 : placesOf Tryd.prog 80 = some [(0, 1), (1, 1), (2, 1), (3, 1), (4, 1)] := by kernel_rfl
theorem sz80 : Tryd.prog.cellsOf 80 = 4 + 1 := by kernel_rfl
theorem zr80 : Tryd.prog.zeroOf 80 = some (.agg #[.string ⟨#[]⟩, .int .u32 0, .int .i64 0, .int .u64 0, .slice none 0 0]) := by kernel_rfl

theorem tidy_take {l : List Nr} {i now : Nat} {s : Nr} (h : l[i]? = some s) : tidyE now (l.take (i + 1)) = tidyE now (l.take i) ++ (if now < s.u then [s] else []) := by
  unfold tidyE
  rw [List.take_add_one, h, List.filter_append]
  congr 1
  by_cases hs : now < s.u
  · rw [if_pos hs]; simp; omega
  · rw [if_neg hs]; simp; omega
theorem pos_at {l : List Nr} (hs : Srt l) {i : Nat} {s : Nr} {a : Nat} (h : l[i]? = some s) (ha : s.a = a) : posE a l = i := by
  have hi : i < l.length := by rcases Nat.lt_or_ge i l.length with h5 | h5; exact h5; rw [List.getElem?_eq_none h5] at h; cases h
  refine (pos_eq a l i (by omega) (fun x hx => ?_) (fun x hx => ?_)).symm
  · obtain ⟨j, hj⟩ := List.mem_iff_getElem?.1 hx
    rw [List.getElem?_take] at hj
    split at hj
    · rename_i hji
      rw [List.getElem?_eq_getElem (by omega)] at hj
      cases hj
      rw [List.getElem?_eq_getElem hi] at h
      cases h
      have := List.pairwise_iff_getElem.1 hs j i (by omega) hi hji
      omega
    · cases hj
  · obtain ⟨j, hj⟩ := List.mem_iff_getElem?.1 hx
    rw [List.getElem?_drop] at hj
    have := srt_get hs (show i ≤ i + j by omega) h hj
    omega
def rfindE (a : Nat) (l : List Nr) : Int := if hasE a l = true then (posE a l : Int) else -1
theorem rfind_none {a : Nat} {l : List Nr} (h : ∀ s ∈ l, s.a ≠ a) : rfindE a l = -1 := by
  unfold rfindE
  rw [if_neg]
  rw [has_iff]
  rintro ⟨s, hs, hsa⟩
  exact h s hs hsa
theorem rfind_some {a i : Nat} {l : List Nr} {s : Nr} (hl : Srt l) (h : l[i]? = some s) (ha : s.a = a) : rfindE a l = (i : Int) := by
  unfold rfindE
  rw [if_pos ((has_iff a l).2 ⟨s, mem_of_get h, ha⟩), pos_at hl h ha]
def insE (l : List Nr) (n : Nr) (k : Nat) : List Nr := if posE n.a l < k then l.take (posE n.a l) ++ n :: (l.take k).drop (posE n.a l) else l.take k
theorem ins_three {l : List Nr} {n s : Nr} {k : Nat} (h : posE n.a l < k) (hs : l[k]? = some s) : insE l n (k + 1) = insE l n k ++ [s] := by
  have hk : k < l.length := by rcases Nat.lt_or_ge k l.length with h5 | h5; exact h5; rw [List.getElem?_eq_none h5] at hs; cases hs
  unfold insE
  rw [if_pos h, if_pos (by omega), List.take_add_one, hs, List.drop_append_of_le_length (by rw [List.length_take]; omega)]
  simp
theorem ins_one {l : List Nr} {n s : Nr} {k : Nat} (h : ¬ posE n.a l < k) (hs : l[k]? = some s) (ha : n.a < s.a) : posE n.a l = k ∧ insE l n (k + 1) = insE l n k ++ [n] ++ [s] := by
  have hk : k < l.length := by rcases Nat.lt_or_ge k l.length with h5 | h5; exact h5; rw [List.getElem?_eq_none h5] at hs; cases hs
  have hp : posE n.a l = k := by
    rcases Nat.lt_or_eq_of_le (Nat.not_lt.1 h) with h1 | h1
    · have := take_pos n.a l s (mem_of_get (show (l.take (posE n.a l))[k]? = some s by rw [List.getElem?_take, if_pos h1]; exact hs))
      omega
    · exact h1.symm
  refine ⟨hp, ?_⟩
  unfold insE
  rw [if_neg h, if_pos (by omega), hp, List.take_add_one, hs, List.drop_append_of_le_length (by rw [List.length_take]; omega), List.drop_of_length_le (by rw [List.length_take]; omega)]
  simp
theorem ins_two {l : List Nr} {n s : Nr} {k : Nat} (hl : Srt l) (hh : hasE n.a l = false) (h : ¬ posE n.a l < k) (hs : l[k]? = some s) (ha : ¬ n.a < s.a) : ¬ posE n.a l < k + 1 ∧ insE l n (k + 1) = insE l n k ++ [s] := by
  have hp : ¬ posE n.a l < k + 1 := by
    intro h1
    have hp : posE n.a l = k := by omega
    have := drop_pos n.a l hl s (mem_of_get (show (l.drop (posE n.a l))[0]? = some s by rw [List.getElem?_drop, hp]; exact hs))
    have h2 : hasE n.a l = true := (has_iff _ _).2 ⟨s, mem_of_get hs, by omega⟩
    rw [hh] at h2; cases h2
  refine ⟨hp, ?_⟩
  unfold insE
  rw [if_neg h, if_neg hp, List.take_add_one, hs]
  simp
theorem ins_end1 {l : List Nr} {n : Nr} (h : posE n.a l < l.length) : insE l n l.length = l.take (posE n.a l) ++ n :: l.drop (posE n.a l) := by
  unfold insE; rw [if_pos h, List.take_length]
theorem ins_end2 {l : List Nr} {n : Nr} (h : ¬ posE n.a l < l.length) : insE l n l.length ++ [n] = l.take (posE n.a l) ++ n :: l.drop (posE n.a l) := by
  have := pos_le n.a l
  unfold insE; rw [if_neg h, List.take_length, List.take_of_length_le (by omega), List.drop_of_length_le (by omega)]
theorem rnew_spec (mac : List UInt8) (addr : Nat) (most : Int) (life : Nat) (hm : mac.length ≤ 1048576) (ha : addr < 4294967296) :
    Sat Tryd.prog 27 [str mac, .int .u32 addr, .int .i64 most, .int .u64 life] [] (fun u L' => (newOk mac addr most life ∧ ∃ p, u = .pointer (some ⟨p, 0, none⟩) ∧ L' = [row 80 p (tabV (⟨mac, addr, most.toNat, life⟩ : Tb) (.slice none 0 0)), sl 40 3 (.slice none 0 0) ([] : List Nr).length (([] : List Nr).flatMap nearV)]) ∨ (¬ newOk mac addr most life ∧ u = .pointer none ∧ L' = [])) := by
  refine Sat.enter Tryd.func27 rfl Tryd.ntmps27 rfl (fun c R => ?_)
  try simp only [List.cons_append, List.nil_append]
  refine T.seq ?_
  refine T.reg ?_
  refine TO.p (DP.as (by conv => lhs; whnf)) ?_
  refine TO.nil ?_
  refine TQ.nn ?_
  refine T.seq ?_
  refine T.seq ?_
  refine T.reg ?_
  refine TO.p (DP.mv (by conv => lhs; whnf)) ?_
  refine TO.n (N.callF (ralone_spec mac hm) Tryd.call15 ⟨rfl, trivial⟩ (by (repeat first | exact Pick.nil _ | (apply Pick.cons; focus ((repeat first | exact Del.head _ _ | apply Del.tail); done))))) ?_
  rintro u10 _ ⟨_, ⟨rfl, rfl⟩, rfl⟩
  try simp only [List.cons_append, List.nil_append]
  refine TO.p (DP.not rfl) ?_
  refine TO.pb (DP.mv (by conv => lhs; whnf)) (fun hg12 => ?_) (fun hg12 => ?_)
  · refine TO.off rfl rfl ?_
    refine TO.off rfl rfl ?_
    refine TO.off rfl rfl ?_
    refine TO.p (DP.pkT rfl (by conv => lhs; whnf)) ?_
    refine TO.p (DP.mv (by conv => lhs; whnf)) ?_
    refine TO.off rfl rfl ?_
    refine TO.off rfl rfl ?_
    refine TO.p (DP.pkT rfl (by conv => lhs; whnf)) ?_
    refine TO.p (DP.mv (by conv => lhs; whnf)) ?_
    refine TO.off rfl rfl ?_
    refine TO.off rfl rfl ?_
    refine TO.p (DP.pkT rfl (by conv => lhs; whnf)) ?_
    refine TO.p (DP.mv (by conv => lhs; whnf)) ?_
    refine TO.off rfl rfl ?_
    refine TO.off rfl rfl ?_
    refine TO.p (DP.pkT rfl (by conv => lhs; whnf)) ?_
    refine TO.p (DP.mv (by conv => lhs; whnf)) ?_
    refine TO.off rfl rfl ?_
    refine TO.off rfl rfl ?_
    refine TO.p (DP.pkT rfl (by conv => lhs; whnf)) ?_
    refine TO.nil ?_
    refine TQ.nn ?_
    refine T.condT rfl ?_
    refine T.seq ?_
    refine T.reg ?_
    refine TO.p (DP.as (by conv => lhs; whnf)) ?_
    refine TO.nil ?_
    refine TQ.nn ?_
    refine T.ret ?_
    refine TQ.nr ?_
    refine TQ.ret (vs := [.pointer none]) (L' := []) rfl ⟨rfl, rfl⟩ (.inr ⟨fun h => by obtain ⟨h1, h2, h3, h4, h5, h6⟩ := h; first | omega | (rw [h1] at hg12; exact absurd hg12 (by decide)) | (rw [h2] at hg17; exact absurd hg17 (by decide)), rfl, rfl⟩) (by (refine Ent.imp ?_; repeat first | exact Imp.refl _ | exact Imp.nil _ | (apply Imp.pull; focus ((repeat first | exact Del.head _ _ | apply Del.tail); done)) | (apply Imp.row; focus ((repeat first | exact Del.head _ _ | apply Del.tail); done)) | apply Imp.drop))
  · refine TO.onP rfl (DP.mv (by conv => lhs; whnf)) ?_
    refine TO.on rfl (N.callF (raloneA_spec addr ha) Tryd.call26 ⟨rfl, trivial⟩ (by (repeat first | exact Pick.nil _ | (apply Pick.cons; focus ((repeat first | exact Del.head _ _ | apply Del.tail); done))))) ?_
    rintro u14 _ ⟨_, ⟨rfl, rfl⟩, rfl⟩
    try simp only [List.cons_append, List.nil_append]
    refine TO.onP rfl (DP.not rfl) ?_
    refine TO.p (DP.pkF rfl (by conv => lhs; whnf)) ?_
    refine TO.pb (DP.mv (by conv => lhs; whnf)) (fun hg17 => ?_) (fun hg17 => ?_)
    · refine TO.off rfl rfl ?_
      refine TO.off rfl rfl ?_
      refine TO.p (DP.pkT rfl (by conv => lhs; whnf)) ?_
      refine TO.p (DP.mv (by conv => lhs; whnf)) ?_
      refine TO.off rfl rfl ?_
      refine TO.off rfl rfl ?_
      refine TO.p (DP.pkT rfl (by conv => lhs; whnf)) ?_
      refine TO.p (DP.mv (by conv => lhs; whnf)) ?_
      refine TO.off rfl rfl ?_
      refine TO.off rfl rfl ?_
      refine TO.p (DP.pkT rfl (by conv => lhs; whnf)) ?_
      refine TO.p (DP.mv (by conv => lhs; whnf)) ?_
      refine TO.off rfl rfl ?_
      refine TO.off rfl rfl ?_
      refine TO.p (DP.pkT rfl (by conv => lhs; whnf)) ?_
      refine TO.nil ?_
      refine TQ.nn ?_
      refine T.condT rfl ?_
      refine T.seq ?_
      refine T.reg ?_
      refine TO.p (DP.as (by conv => lhs; whnf)) ?_
      refine TO.nil ?_
      refine TQ.nn ?_
      refine T.ret ?_
      refine TQ.nr ?_
      refine TQ.ret (vs := [.pointer none]) (L' := []) rfl ⟨rfl, rfl⟩ (.inr ⟨fun h => by obtain ⟨h1, h2, h3, h4, h5, h6⟩ := h; first | omega | (rw [h1] at hg12; exact absurd hg12 (by decide)) | (rw [h2] at hg17; exact absurd hg17 (by decide)), rfl, rfl⟩) (by (refine Ent.imp ?_; repeat first | exact Imp.refl _ | exact Imp.nil _ | (apply Imp.pull; focus ((repeat first | exact Del.head _ _ | apply Del.tail); done)) | (apply Imp.row; focus ((repeat first | exact Del.head _ _ | apply Del.tail); done)) | apply Imp.drop))
    · refine TO.onP rfl (DP.mv (by conv => lhs; whnf)) ?_
      refine TO.onP rfl (DP.lssI rfl rfl) ?_
      refine TO.p (DP.pkF rfl (by conv => lhs; whnf)) ?_
      refine TO.pB (DP.mv (by conv => lhs; whnf)) (fun hg21 => ?_) (fun hg21 => ?_)
      · refine TO.off rfl rfl ?_
        refine TO.off rfl rfl ?_
        refine TO.p (DP.pkT rfl (by conv => lhs; whnf)) ?_
        refine TO.p (DP.mv (by conv => lhs; whnf)) ?_
        refine TO.off rfl rfl ?_
        refine TO.off rfl rfl ?_
        refine TO.p (DP.pkT rfl (by conv => lhs; whnf)) ?_
        refine TO.p (DP.mv (by conv => lhs; whnf)) ?_
        refine TO.off rfl rfl ?_
        refine TO.off rfl rfl ?_
        refine TO.p (DP.pkT rfl (by conv => lhs; whnf)) ?_
        refine TO.nil ?_
        refine TQ.nn ?_
        refine T.condT rfl ?_
        refine T.seq ?_
        refine T.reg ?_
        refine TO.p (DP.as (by conv => lhs; whnf)) ?_
        refine TO.nil ?_
        refine TQ.nn ?_
        refine T.ret ?_
        refine TQ.nr ?_
        refine TQ.ret (vs := [.pointer none]) (L' := []) rfl ⟨rfl, rfl⟩ (.inr ⟨fun h => by obtain ⟨h1, h2, h3, h4, h5, h6⟩ := h; first | omega | (rw [h1] at hg12; exact absurd hg12 (by decide)) | (rw [h2] at hg17; exact absurd hg17 (by decide)), rfl, rfl⟩) (by (refine Ent.imp ?_; repeat first | exact Imp.refl _ | exact Imp.nil _ | (apply Imp.pull; focus ((repeat first | exact Del.head _ _ | apply Del.tail); done)) | (apply Imp.row; focus ((repeat first | exact Del.head _ _ | apply Del.tail); done)) | apply Imp.drop))
      · refine TO.onP rfl (DP.mv (by conv => lhs; whnf)) ?_
        refine TO.onP rfl (DP.gtrI rfl rfl) ?_
        refine TO.p (DP.pkF rfl (by conv => lhs; whnf)) ?_
        refine TO.pB (DP.mv (by conv => lhs; whnf)) (fun hg25 => ?_) (fun hg25 => ?_)
        · refine TO.off rfl rfl ?_
          refine TO.off rfl rfl ?_
          refine TO.p (DP.pkT rfl (by conv => lhs; whnf)) ?_
          refine TO.p (DP.mv (by conv => lhs; whnf)) ?_
          refine TO.off rfl rfl ?_
          refine TO.off rfl rfl ?_
          refine TO.p (DP.pkT rfl (by conv => lhs; whnf)) ?_
          refine TO.nil ?_
          refine TQ.nn ?_
          refine T.condT rfl ?_
          refine T.seq ?_
          refine T.reg ?_
          refine TO.p (DP.as (by conv => lhs; whnf)) ?_
          refine TO.nil ?_
          refine TQ.nn ?_
          refine T.ret ?_
          refine TQ.nr ?_
          refine TQ.ret (vs := [.pointer none]) (L' := []) rfl ⟨rfl, rfl⟩ (.inr ⟨fun h => by obtain ⟨h1, h2, h3, h4, h5, h6⟩ := h; first | omega | (rw [h1] at hg12; exact absurd hg12 (by decide)) | (rw [h2] at hg17; exact absurd hg17 (by decide)), rfl, rfl⟩) (by (refine Ent.imp ?_; repeat first | exact Imp.refl _ | exact Imp.nil _ | (apply Imp.pull; focus ((repeat first | exact Del.head _ _ | apply Del.tail); done)) | (apply Imp.row; focus ((repeat first | exact Del.head _ _ | apply Del.tail); done)) | apply Imp.drop))
        · refine TO.onP rfl (DP.mv (by conv => lhs; whnf)) ?_
          refine TO.onP rfl ((by first | exact DP.lss (b := 1) rfl rfl | exact DP.lssI rfl rfl)) ?_
          refine TO.p (DP.pkF rfl (by conv => lhs; whnf)) ?_
          refine TO.pB (DP.mv (by conv => lhs; whnf)) (fun hg29 => ?_) (fun hg29 => ?_)
          · refine TO.off rfl rfl ?_
            refine TO.off rfl rfl ?_
            refine TO.p (DP.pkT rfl (by conv => lhs; whnf)) ?_
            refine TO.nil ?_
            refine TQ.nn ?_
            refine T.condT rfl ?_
            refine T.seq ?_
            refine T.reg ?_
            refine TO.p (DP.as (by conv => lhs; whnf)) ?_
            refine TO.nil ?_
            refine TQ.nn ?_
            refine T.ret ?_
            refine TQ.nr ?_
            refine TQ.ret (vs := [.pointer none]) (L' := []) rfl ⟨rfl, rfl⟩ (.inr ⟨fun h => by obtain ⟨h1, h2, h3, h4, h5, h6⟩ := h; first | omega | (rw [h1] at hg12; exact absurd hg12 (by decide)) | (rw [h2] at hg17; exact absurd hg17 (by decide)), rfl, rfl⟩) (by (refine Ent.imp ?_; repeat first | exact Imp.refl _ | exact Imp.nil _ | (apply Imp.pull; focus ((repeat first | exact Del.head _ _ | apply Del.tail); done)) | (apply Imp.row; focus ((repeat first | exact Del.head _ _ | apply Del.tail); done)) | apply Imp.drop))
          · refine TO.onP rfl (DP.mv (by conv => lhs; whnf)) ?_
            refine TO.onP rfl ((by first | exact DP.gtr (b := 4294967296) rfl rfl | exact DP.gtrI rfl rfl)) ?_
            refine TO.p (DP.pkF rfl (by conv => lhs; whnf)) ?_
            refine TO.nil ?_
            refine TQ.nn ?_
            refine T.condD rfl (fun hc0 => ?_) (fun hc0 => ?_)
            · refine T.seq ?_
              refine T.reg ?_
              refine TO.p (DP.as (by conv => lhs; whnf)) ?_
              refine TO.nil ?_
              refine TQ.nn ?_
              refine T.ret ?_
              refine TQ.nr ?_
              refine TQ.ret (vs := [.pointer none]) (L' := []) rfl ⟨rfl, rfl⟩ (.inr ⟨fun h => by obtain ⟨h1, h2, h3, h4, h5, h6⟩ := h; first | omega | (rw [h1] at hg12; exact absurd hg12 (by decide)) | (rw [h2] at hg17; exact absurd hg17 (by decide)), rfl, rfl⟩) (by (refine Ent.imp ?_; repeat first | exact Imp.refl _ | exact Imp.nil _ | (apply Imp.pull; focus ((repeat first | exact Del.head _ _ | apply Del.tail); done)) | (apply Imp.row; focus ((repeat first | exact Del.head _ _ | apply Del.tail); done)) | apply Imp.drop))
            · have hok : newOk mac addr most life := ⟨by simpa using hg12, by simpa using hg17, by omega, by omega, by omega, by omega⟩
              obtain ⟨m, rfl⟩ : ∃ m : Nat, most = m := ⟨most.toNat, by omega⟩
              refine T.skip ?_
              refine TQ.nn ?_
              refine T.seq ?_
              refine T.reg ?_
              refine TO.p (DP.mv (by conv => lhs; whnf)) ?_
              refine TO.p (DP.mv (by conv => lhs; whnf)) ?_
              refine TO.p (DP.mv (by conv => lhs; whnf)) ?_
              refine TO.p (DP.mv (by conv => lhs; whnf)) ?_
              refine TO.p (DP.bdL (vs := [(0, _), (1, _), (2, _), (3, _)]) (us := tabV ⟨mac, addr, m, life⟩ (.slice none 0 0)) ⟨rfl, rfl, rfl, rfl, rfl, rfl, rfl, rfl, trivial⟩ pc80 zr80 rfl) ?_
              refine TO.n (N.bxA (cs := tabV ⟨mac, addr, m, life⟩ (.slice none 0 0)) rfl) ?_
              rintro _ _ ⟨b38, rfl, rfl⟩
              refine TO.p (DP.as (by conv => lhs; whnf)) ?_
              refine TO.nil ?_
              refine TQ.nn ?_
              refine T.ret ?_
              refine TQ.ret (vs := [.pointer (some ⟨b38, 0, none⟩)]) (L' := [row 80 b38 (tabV (⟨mac, addr, m, life⟩ : Tb) (.slice none 0 0)), sl 40 3 (.slice none 0 0) ([] : List Nr).length (([] : List Nr).flatMap nearV)]) rfl ⟨rfl, rfl⟩ (.inl ⟨hok, _, rfl, rfl⟩) (by simp only [List.length_nil, List.flatMap_nil, List.cons_append, List.nil_append]; refine Ent.imp (Imp.pull (Del.head _ _) (Imp.slN (Imp.refl _))))

theorem rtidy_spec (q : Tb) (l : List Nr) (v : Value) (p : Nat) (hlen : l.length ≤ 1048576) (now : Nat) :
    Sat Tryd.prog 47 [.pointer (some ⟨p, 0, none⟩), .int .u64 now] [row 80 p (tabV q v), sl 40 3 v (l).length ((l).flatMap nearV)] (fun u L' => u = .tuple #[] ∧ ∃ v2, L' = [row 80 p (tabV q v2), sl 40 3 v2 (tidyE now l).length ((tidyE now l).flatMap nearV)]) := by
  refine Sat.enter Tryd.func47 rfl Tryd.ntmps47 rfl (fun c R => ?_)
  try simp only [List.cons_append, List.nil_append]
  refine T.seq ?_
  refine T.reg ?_
  refine TO.p (DP.as (by conv => lhs; whnf)) ?_
  refine TO.nil ?_
  refine TQ.nn ?_
  refine T.seq ?_
  refine T.seq ?_
  refine T.reg ?_
  refine TO.p (DP.as (by conv => lhs; whnf)) ?_
  refine TO.nil ?_
  refine TQ.nn ?_
  refine T.block ?_
  refine T.loop (S := Nat × Value) (0, .slice none 0 0) (fun ⟨i, w⟩ => [(0, .pointer (some ⟨p, 0, none⟩)), (1, .int .u64 now), (4, w), (5, .int .i64 (i : Nat))]) (fun ⟨i, w⟩ => row 80 p (tabV q v) :: sl 40 3 v (l).length ((l).flatMap nearV) :: sl 40 3 w (tidyE now (l.take i)).length ((tidyE now (l.take i)).flatMap nearV) :: R) (fun ⟨i, w⟩ => i ≤ l.length) (fun ⟨i, w⟩ => l.length - i) ?_ ?_ ?_ ?_
  · (repeat first | exact trivial | refine ⟨rfl, ?_⟩)
  · exact Nat.zero_le _
  · (refine Ent.imp (Imp.pull (Del.head _ _) (Imp.pull (Del.head _ _) (Imp.slN (Imp.refl _)))))
  rintro ⟨i, w⟩ g hI
  try dsimp only
  refine T.seq ?_
  refine T.seq ?_
  refine T.reg ?_
  refine TO.p (DP.mv (by conv => lhs; whnf)) ?_
  refine TO.p (DP.mv (by conv => lhs; whnf)) ?_
  refine TO.p (DP.nck rfl) ?_
  refine TO.p (DP.fa 4 rfl Tryd.underlying80 rfl rfl sz32) ?_
  refine TO.d (D.ldR (v := v) rfl pl32 (by (repeat first | exact LMem.head _ _ | apply LMem.tail)) rfl) ?_
  refine TO.d (D.lenO (by conv => lhs; whnf) Tryd.underlying32 (by (repeat first | exact LMem.head _ _ | apply LMem.tail))) ?_
  refine TO.p ((by first | exact DP.lss rfl rfl | exact DP.lssI rfl rfl)) ?_
  refine TO.nil ?_
  refine TQ.nn ?_
  refine T.condD rfl (fun hc0 => ?_) (fun hc0 => ?_)
  · obtain ⟨s, hs1⟩ := get_some (l := l) (i := i) (by omega)
    have hlt := tidy_len (l.take i) now
    have hlk : (l.take i).length = i := by rw [List.length_take]; omega
    refine T.skip ?_
    refine TQ.nn ?_
    refine T.seq ?_
    refine T.block ?_
    refine T.seq ?_
    refine T.reg ?_
    refine TO.p (DP.mv (by conv => lhs; whnf)) ?_
    refine TO.p (DP.nck rfl) ?_
    refine TO.p (DP.fa 4 rfl Tryd.underlying80 rfl rfl sz32) ?_
    refine TO.d (D.ldR (v := v) rfl pl32 (by (repeat first | exact LMem.head _ _ | apply LMem.tail)) rfl) ?_
    refine TO.p (DP.mv (by conv => lhs; whnf)) ?_
    refine TO.d (D.iasO (i := i) rfl rfl Tryd.underlying32 sz40 (by (repeat first | exact LMem.head _ _ | apply LMem.tail)) (by omega)) ?_
    refine TO.d (D.faO 2 (i := i) (by conv => lhs; whnf) Tryd.underlying40 rfl rfl sz31 (by (repeat first | exact LMem.head _ _ | apply LMem.tail)) (by omega)) ?_
    refine TO.d (D.ldOF (i := i) (u := .int .u64 s.u) (by conv => lhs; whnf) pl31 (by (repeat first | exact LMem.head _ _ | apply LMem.tail)) (flat_elem nearV_len hs1 2 _ rfl) (by omega)) ?_
    refine TO.p (DP.mv (by conv => lhs; whnf)) ?_
    refine TO.p ((by first | exact DP.gtr rfl rfl | exact DP.gtrI rfl rfl)) ?_
    refine TO.nil ?_
    refine TQ.nn ?_
    refine T.condD rfl (fun hc1 => ?_) (fun hc1 => ?_)
    · have htt : tidyE now (l.take (i + 1)) = tidyE now (l.take i) ++ [s] := by rw [tidy_take hs1, if_pos hc1]
      refine T.reg ?_
      refine TO.p (DP.mv (by conv => lhs; whnf)) ?_
      refine TO.p (DP.mv (by conv => lhs; whnf)) ?_
      refine TO.p (DP.nck rfl) ?_
      refine TO.p (DP.fa 4 rfl Tryd.underlying80 rfl rfl sz32) ?_
      refine TO.d (D.ldR (v := v) rfl pl32 (by (repeat first | exact LMem.head _ _ | apply LMem.tail)) rfl) ?_
      refine TO.p (DP.mv (by conv => lhs; whnf)) ?_
      refine TO.d (D.iasO (i := i) rfl rfl Tryd.underlying32 sz40 (by (repeat first | exact LMem.head _ _ | apply LMem.tail)) (by omega)) ?_
      refine TO.d (D.ldOA (i := i) (us := nearV s) (by conv => lhs; whnf) ag40 sz40 (by (repeat first | exact LMem.head _ _ | apply LMem.tail)) (by omega) (flat_elem nearV_len hs1) (nearV_len s)) ?_
      refine TO.n (N.bsL (len := 1) (vs := [(0, _)]) (us := nearV s) ⟨rfl, rfl, trivial⟩ Tryd.underlying32 sz40 zr40 rfl (by omega) rfl) ?_
      rintro _ _ ⟨b33, rfl, rfl⟩
      refine TO.n (N.app rfl rfl Tryd.underlying32 sz40 by40 zr40 rfl rfl (by (repeat first | exact Del.head _ _ | apply Del.tail)) (Src.sl (news := nearV s) Tryd.underlying32 (by rfl) (by (repeat first | exact LMem.head _ _ | apply LMem.tail)) (ReadsN.cells (fun i v hv => by simpa using hv))) (nearV_one s) (by omega)) ?_
      rintro u34 _ rfl
      refine TO.p (DP.as (by conv => lhs; whnf)) ?_
      refine TO.nil ?_
      refine TQ.bn ?_
      refine TQ.nn ?_
      refine T.reg ?_
      refine TO.p (DP.mv (by conv => lhs; whnf)) ?_
      refine TO.p ((by first | exact DP.add (b := 1) rfl rfl (l := 9223372036854775808) rfl (by omega) | exact DP.addX rfl rfl)) ?_
      refine TO.p (DP.as (by conv => lhs; whnf)) ?_
      refine TO.nil ?_
      refine TQ.round (i + 1, u34) rfl ?_ ?_ ?_ ?_
      · (repeat first | exact trivial | refine ⟨rfl, ?_⟩)
      · (show i + 1 ≤ l.length; omega)
      · (show l.length - (i + 1) < l.length - i; omega)
      · (dsimp only; rw [htt]; (try rw [List.length_append, List.flatMap_append, List.flatMap_singleton]); (refine Ent.imp ?_; repeat first | exact Imp.refl _ | exact Imp.nil _ | (apply Imp.pull; focus ((repeat first | exact Del.head _ _ | apply Del.tail); done)) | (apply Imp.row; focus ((repeat first | exact Del.head _ _ | apply Del.tail); done)) | apply Imp.drop))
    · have htt : tidyE now (l.take (i + 1)) = tidyE now (l.take i) := by rw [tidy_take hs1, if_neg hc1, List.append_nil]
      refine T.skip ?_
      refine TQ.bn ?_
      refine TQ.nn ?_
      refine T.reg ?_
      refine TO.p (DP.mv (by conv => lhs; whnf)) ?_
      refine TO.p ((by first | exact DP.add (b := 1) rfl rfl (l := 9223372036854775808) rfl (by omega) | exact DP.addX rfl rfl)) ?_
      refine TO.p (DP.as (by conv => lhs; whnf)) ?_
      refine TO.nil ?_
      refine TQ.round (i + 1, w) rfl ?_ ?_ ?_ ?_
      · (repeat first | exact trivial | refine ⟨rfl, ?_⟩)
      · (show i + 1 ≤ l.length; omega)
      · (show l.length - (i + 1) < l.length - i; omega)
      · (dsimp only; rw [htt]; (try rw [List.length_append, List.flatMap_append, List.flatMap_singleton]); (refine Ent.imp ?_; repeat first | exact Imp.refl _ | exact Imp.nil _ | (apply Imp.pull; focus ((repeat first | exact Del.head _ _ | apply Del.tail); done)) | (apply Imp.row; focus ((repeat first | exact Del.head _ _ | apply Del.tail); done)) | apply Imp.drop))
  · obtain rfl : i = l.length := by omega
    rw [List.take_length]
    refine T.exit ?_
    refine TQ.ne ?_
    refine TQ.le ?_
    refine TQ.be ?_
    refine TQ.nn ?_
    refine T.reg ?_
    refine TO.p (DP.mv (by conv => lhs; whnf)) ?_
    refine TO.p (DP.mv (by conv => lhs; whnf)) ?_
    refine TO.p (DP.nck rfl) ?_
    refine TO.p (DP.fa 4 rfl Tryd.underlying80 rfl rfl sz32) ?_
    refine TO.n0 (N.stS rfl rfl sz32 (by (repeat first | exact LMem.head _ _ | apply LMem.tail)) (by (repeat first | exact Put.head _ _ _ | apply Put.tail)) (by simp [tabV])) ?_
    rintro _ _ ⟨rfl, rfl⟩
    refine TO.nil ?_
    refine TQ.end (vs := []) (L' := [row 80 p (tabV q w), sl 40 3 w (tidyE now l).length ((tidyE now l).flatMap nearV)]) rfl rfl ⟨rfl, _, rfl⟩ (by (refine Ent.imp ?_; repeat first | exact Imp.refl _ | exact Imp.nil _ | (apply Imp.pull; focus ((repeat first | exact Del.head _ _ | apply Del.tail); done)) | (apply Imp.row; focus ((repeat first | exact Del.head _ _ | apply Del.tail); done)) | apply Imp.drop))

theorem rfind_spec (q : Tb) (l : List Nr) (v : Value) (p : Nat) (hlen : l.length ≤ 1048576) (a : Nat) (hs : Srt l) :
    Sat Tryd.prog 48 [.pointer (some ⟨p, 0, none⟩), .int .u32 a] [row 80 p (tabV q v), sl 40 3 v (l).length ((l).flatMap nearV)] (fun u L' => u = .int .i64 (rfindE a l) ∧ L' = [row 80 p (tabV q v), sl 40 3 v (l).length ((l).flatMap nearV)]) := by
  refine Sat.enter Tryd.func48 rfl Tryd.ntmps48 rfl (fun c R => ?_)
  try simp only [List.cons_append, List.nil_append]
  refine T.seq ?_
  refine T.reg ?_
  refine TO.p (DP.as (by conv => lhs; whnf)) ?_
  refine TO.nil ?_
  refine TQ.nn ?_
  refine T.seq ?_
  refine T.seq ?_
  refine T.reg ?_
  refine TO.p (DP.as (by conv => lhs; whnf)) ?_
  refine TO.nil ?_
  refine TQ.nn ?_
  refine T.block ?_
  refine T.loop (S := Nat) 0 (fun i => [(0, .pointer (some ⟨p, 0, none⟩)), (1, .int .u32 a), (5, .int .i64 (i : Nat))]) (fun i => row 80 p (tabV q v) :: sl 40 3 v (l).length ((l).flatMap nearV) :: R) (fun i => i ≤ l.length ∧ ∀ s ∈ l.take i, s.a ≠ a) (fun i => l.length - i) ?_ ?_ ?_ ?_
  · (repeat first | exact trivial | refine ⟨rfl, ?_⟩)
  · exact ⟨Nat.zero_le _, by simp⟩
  · exact Ent.refl _ _
  rintro i g ⟨hI, hA⟩
  refine T.seq ?_
  refine T.seq ?_
  refine T.reg ?_
  refine TO.p (DP.mv (by conv => lhs; whnf)) ?_
  refine TO.p (DP.mv (by conv => lhs; whnf)) ?_
  refine TO.p (DP.nck rfl) ?_
  refine TO.p (DP.fa 4 rfl Tryd.underlying80 rfl rfl sz32) ?_
  refine TO.d (D.ldR (v := v) rfl pl32 (by (repeat first | exact LMem.head _ _ | apply LMem.tail)) rfl) ?_
  refine TO.d (D.lenO (by conv => lhs; whnf) Tryd.underlying32 (by (repeat first | exact LMem.head _ _ | apply LMem.tail))) ?_
  refine TO.p ((by first | exact DP.lss rfl rfl | exact DP.lssI rfl rfl)) ?_
  refine TO.nil ?_
  refine TQ.nn ?_
  refine T.condD rfl (fun hc0 => ?_) (fun hc0 => ?_)
  · obtain ⟨s, hs1⟩ := get_some (l := l) (i := i) (by omega)
    refine T.skip ?_
    refine TQ.nn ?_
    refine T.seq ?_
    refine T.block ?_
    refine T.seq ?_
    refine T.reg ?_
    refine TO.p (DP.mv (by conv => lhs; whnf)) ?_
    refine TO.p (DP.nck rfl) ?_
    refine TO.p (DP.fa 4 rfl Tryd.underlying80 rfl rfl sz32) ?_
    refine TO.d (D.ldR (v := v) rfl pl32 (by (repeat first | exact LMem.head _ _ | apply LMem.tail)) rfl) ?_
    refine TO.p (DP.mv (by conv => lhs; whnf)) ?_
    refine TO.d (D.iasO (i := i) rfl rfl Tryd.underlying32 sz40 (by (repeat first | exact LMem.head _ _ | apply LMem.tail)) (by omega)) ?_
    refine TO.d (D.faO 0 (i := i) (by conv => lhs; whnf) Tryd.underlying40 rfl rfl sz26 (by (repeat first | exact LMem.head _ _ | apply LMem.tail)) (by omega)) ?_
    refine TO.d (D.ldOF (i := i) (u := .int .u32 s.a) (by conv => lhs; whnf) pl26 (by (repeat first | exact LMem.head _ _ | apply LMem.tail)) (flat_elem nearV_len hs1 0 _ rfl) (by omega)) ?_
    refine TO.p (DP.mv (by conv => lhs; whnf)) ?_
    refine TO.p ((by first | exact DP.eql rfl rfl | exact DP.eqlI rfl rfl)) ?_
    refine TO.nil ?_
    refine TQ.nn ?_
    refine T.condD rfl (fun hc1 => ?_) (fun hc1 => ?_)
    · refine T.seq ?_
      refine T.reg ?_
      refine TO.p (DP.mv (by conv => lhs; whnf)) ?_
      refine TO.p (DP.as (by conv => lhs; whnf)) ?_
      refine TO.nil ?_
      refine TQ.nn ?_
      refine T.ret ?_
      refine TQ.br ?_
      refine TQ.nr ?_
      refine TQ.lr ?_
      refine TQ.br ?_
      refine TQ.nr ?_
      rw [rfind_some hs hs1 hc1]
      refine TQ.ret (vs := [.int .i64 (i : Nat)]) (L' := [row 80 p (tabV q v), sl 40 3 v (l).length ((l).flatMap nearV)]) rfl ⟨rfl, rfl⟩ ⟨rfl, rfl⟩ (by (refine Ent.imp ?_; repeat first | exact Imp.refl _ | exact Imp.nil _ | (apply Imp.pull; focus ((repeat first | exact Del.head _ _ | apply Del.tail); done)) | (apply Imp.row; focus ((repeat first | exact Del.head _ _ | apply Del.tail); done)) | apply Imp.drop))
    · refine T.skip ?_
      refine TQ.bn ?_
      refine TQ.nn ?_
      refine T.reg ?_
      refine TO.p (DP.mv (by conv => lhs; whnf)) ?_
      refine TO.p ((by first | exact DP.add (b := 1) rfl rfl (l := 9223372036854775808) rfl (by omega) | exact DP.addX rfl rfl)) ?_
      refine TO.p (DP.as (by conv => lhs; whnf)) ?_
      refine TO.nil ?_
      refine TQ.round (i + 1) rfl ?_ ?_ ?_ ?_
      · (repeat first | exact trivial | refine ⟨rfl, ?_⟩)
      · (refine ⟨by omega, fun x hx => ?_⟩; rw [List.take_add_one, hs1, List.mem_append] at hx; rcases hx with hx | hx; exact hA x hx; simp at hx; subst hx; exact hc1)
      · omega
      · exact Ent.refl _ _
  · obtain rfl : i = l.length := by omega
    rw [List.take_length] at hA
    refine T.exit ?_
    refine TQ.ne ?_
    refine TQ.le ?_
    refine TQ.be ?_
    refine TQ.nn ?_
    refine T.seq ?_
    refine T.reg ?_
    refine TO.p (DP.as (by conv => lhs; whnf)) ?_
    refine TO.nil ?_
    refine TQ.nn ?_
    refine T.ret ?_
    rw [rfind_none hA]
    refine TQ.ret (vs := [.int .i64 (-1)]) (L' := [row 80 p (tabV q v), sl 40 3 v (l).length ((l).flatMap nearV)]) rfl ⟨rfl, rfl⟩ ⟨rfl, rfl⟩ (by (refine Ent.imp ?_; repeat first | exact Imp.refl _ | exact Imp.nil _ | (apply Imp.pull; focus ((repeat first | exact Del.head _ _ | apply Del.tail); done)) | (apply Imp.row; focus ((repeat first | exact Del.head _ _ | apply Del.tail); done)) | apply Imp.drop))
end Go.Proofs.YtbandaebilkkkaaDoor
