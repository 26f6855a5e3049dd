/- Lemmas for the proofs of this seat: no statement of the seat is claimed here. -/
import Derived.Test.YtbandaebilkkkaaDoorK9
set_option linter.all false
namespace Go.Proofs.YtbandaebilkkkaaDoor
open Go Pw
set_option maxRecDepth 20000
set_option maxHeartbeats 4000000

theorem take_bad {q : Tb} {l : List Nr} {a : Ar} {now : Nat} (h : mayE a = false ∨ 4611686018427387904 ≤ now ∨ aloneE a.f = false ∨ aloneA a.fa = false ∨ a.fa = q.addr) : takeE q l a now = (l, ar0, false, 2) := if_pos h
theorem take_ok {q : Tb} {l : List Nr} {a : Ar} {now : Nat} (h : ¬ (mayE a = false ∨ 4611686018427387904 ≤ now ∨ aloneE a.f = false ∨ aloneA a.fa = false ∨ a.fa = q.addr)) : takeE q l a now =
    (if hasE a.fa (tidyE now l) = true ∨ a.ta = q.addr then (learnE q (tidyE now l) a.fa a.f now).1 else tidyE now l,
     if a.ta ≠ q.addr ∨ a.op ≠ 1 then (ar0, false, 0) else (⟨2, q.mac, q.addr, a.f, a.fa⟩, true, 0)) := if_neg h
theorem look_bad {l : List Nr} {a now : Nat} (h : 4611686018427387904 ≤ now) : lookE l a now = (l, [], 5 - 3) := if_pos h
theorem srt_inj {l : List Nr} (h : Srt l) {s t : Nr} (hs : s ∈ l) (ht : t ∈ l) (e : s.a = t.a) : s = t := by
  obtain ⟨i, hi⟩ := List.mem_iff_getElem?.1 hs
  obtain ⟨j, hj⟩ := List.mem_iff_getElem?.1 ht
  have hil : i < l.length := by rcases Nat.lt_or_ge i l.length with h5 | h5; exact h5; rw [List.getElem?_eq_none h5] at hi; cases hi
  have hjl : j < l.length := by rcases Nat.lt_or_ge j l.length with h5 | h5; exact h5; rw [List.getElem?_eq_none h5] at hj; cases hj
  rw [List.getElem?_eq_getElem hil] at hi
  rw [List.getElem?_eq_getElem hjl] at hj
  cases hi; cases hj
  rcases Nat.lt_trichotomy i j with h1 | h1 | h1
  · have := List.pairwise_iff_getElem.1 h i j hil hjl h1; omega
  · subst h1; rfl
  · have := List.pairwise_iff_getElem.1 h j i hjl hil h1; omega
theorem find_some {l : List Nr} (h : Srt l) {a : Nat} {s : Nr} (hs : s ∈ l) (hsa : s.a = a) : l.find? (fun s => decide (s.a = a)) = some s := by
  cases hf : l.find? (fun s => decide (s.a = a)) with
  | none => have := List.find?_eq_none.1 hf s hs; simp [hsa] at this
  | some t =>
    have h1 := List.find?_some hf
    have h2 := List.mem_of_find?_eq_some hf
    rw [srt_inj h h2 hs (by simp at h1; omega)]
theorem find_none {l : List Nr} {a : Nat} (h : hasE a l = false) : l.find? (fun s => decide (s.a = a)) = none := by
  rw [List.find?_eq_none]
  intro s hs h2
  have := (has_iff a l).2 ⟨s, hs, by simpa using h2⟩
  rw [h] at this; cases this
theorem look_some {l : List Nr} {a now : Nat} {s : Nr} (h : ¬ 4611686018427387904 ≤ now) (hl : Srt l) (hs : s ∈ tidyE now l) (hsa : s.a = a) : lookE l a now = (tidyE now l, s.m, 0) := by
  unfold lookE; rw [if_neg h, find_some (tidy_srt hl) hs hsa]
theorem look_none {l : List Nr} {a now : Nat} (h : ¬ 4611686018427387904 ≤ now) (hh : hasE a (tidyE now l) = false) : lookE l a now = (tidyE now l, [], 5) := by
  unfold lookE; rw [if_neg h, find_none hh]
theorem take_spec (q : Tb) (l : List Nr) (v : Value) (p : Nat) (hlen : l.length ≤ 1048576) (a : Ar) (now : Nat) (hq : q.ok) (hs : Srt l) (ha : a.ok) :
    Sat Tryd.prog 11 [.pointer (some ⟨p, 0, none⟩), .agg (arV a).toArray, .int .u64 now] [row 64 p (tabV q v), sl 40 3 v (l).length ((l).flatMap nearV)] (fun u L' => u = .tuple #[.agg (arV (takeE q l a now).2.1).toArray, .bool (takeE q l a now).2.2.1, .int .i64 ((takeE q l a now).2.2.2 : Nat)] ∧ ∃ v2, L' = [row 64 p (tabV q v2), sl 40 3 v2 ((takeE q l a now).1).length (((takeE q l a now).1).flatMap nearV)]) := by
  refine Sat.enter Tryd.func11 rfl Tryd.ntmps11 rfl (fun c R => ?_)
  try simp only [List.cons_append, List.nil_append]
  refine T.seq ?_
  refine T.reg ?_
  refine TO.n (N.bxA (cs := arV a) rfl) ?_
  rintro _ _ ⟨b4, rfl, rfl⟩
  obtain ⟨hop, haf, hfa, hat, hta⟩ := ha
  refine TO.n (N.alA zr34) ?_
  rintro _ _ ⟨b6, rfl, rfl⟩
  refine TO.p (DP.as (by conv => lhs; whnf)) ?_
  refine TO.p (DP.as (by conv => lhs; whnf)) ?_
  refine TO.nil ?_
  refine TQ.nn ?_
  refine T.seq ?_
  refine T.block ?_
  refine T.seq ?_
  refine T.reg ?_
  refine TO.p (DP.mv (by conv => lhs; whnf)) ?_
  refine TO.p (DP.peqS rfl rfl Tryd.underlying27) ?_
  refine TO.p (DP.as (by conv => lhs; whnf)) ?_
  refine TO.nil ?_
  refine TQ.nn ?_
  refine T.condF rfl ?_
  refine T.seq ?_
  refine T.seq ?_
  refine T.reg ?_
  refine TO.d (D.ldRA (cs := arV a) rfl ag34 sz34 (by (repeat first | exact LMem.head _ _ | apply LMem.tail)) rfl) ?_
  refine TO.n (N.callF (may_spec a) Tryd.call33 ⟨rfl, trivial⟩ (by (repeat first | exact Pick.nil _ | (apply Pick.cons; focus ((repeat first | exact Del.head _ _ | apply Del.tail); done))))) ?_
  rintro u18 _ ⟨_, ⟨rfl, rfl⟩, rfl⟩
  try simp only [List.cons_append, List.nil_append]
  refine TO.p (DP.not rfl) ?_
  refine TO.p (DP.as (by conv => lhs; whnf)) ?_
  refine TO.nil ?_
  refine TQ.nn ?_
  refine T.condB rfl (fun hc1 => ?_) (fun hc1 => ?_)
  · refine T.skip ?_
    refine TQ.nn ?_
    refine T.condB rfl (fun hc5 => ?_) (fun hc5 => ?_)
    · refine T.seq ?_
      refine T.reg ?_
      refine TO.p (DP.bdL (vs := []) (us := arV ar0) trivial pc34 zr34 rfl) ?_
      refine TO.n0 (N.stA (vs := arV ar0) rfl rfl sz34 (by (repeat first | exact Put.head _ _ _ | apply Put.tail)) (by simp [frV, arV, fr0, ar0]) (by simp [frV, arV, fr0, ar0, str, Value.oneCell']) (by rfl)) ?_
      rintro _ _ ⟨rfl, rfl⟩
      rw [show setAll _ 0 (arV ar0) = arV ar0 from rfl]
      refine TO.p (DP.as (by conv => lhs; whnf)) ?_
      refine TO.p (DP.as (by conv => lhs; whnf)) ?_
      refine TO.nil ?_
      refine TQ.nn ?_
      refine T.ret ?_
      refine TQ.br ?_
      refine TQ.nr ?_
      rw [take_bad (.inl (by simpa using hc1))]
      refine TQ.ret (vs := [.agg (arV ar0).toArray, .bool false, .int .i64 (2 : Nat)]) (L' := [row 64 p (tabV q v), sl 40 3 v (l).length ((l).flatMap nearV)]) rfl ⟨RV.atA rfl ag34 sz34 (by (repeat first | exact LMem.head _ _ | apply LMem.tail)) rfl, rfl, rfl, rfl⟩ ⟨rfl, _, rfl⟩ (by (refine Ent.imp ?_; repeat first | exact Imp.refl _ | exact Imp.nil _ | (apply Imp.pull; focus ((repeat first | exact Del.head _ _ | apply Del.tail); done)) | (apply Imp.row; focus ((repeat first | exact Del.head _ _ | apply Del.tail); done)) | apply Imp.drop))
    · rw [hc1] at hc5; cases hc5
  · refine T.seq ?_
    refine T.reg ?_
    refine TO.p (DP.mv (by conv => lhs; whnf)) ?_
    refine TO.p ((by first | exact DP.geq (b := 4611686018427387904) rfl rfl | exact DP.geqI rfl rfl)) ?_
    refine TO.p (DP.as (by conv => lhs; whnf)) ?_
    refine TO.nil ?_
    refine TQ.nn ?_
    refine T.condD rfl (fun hc2 => ?_) (fun hc2 => ?_)
    · refine T.skip ?_
      refine TQ.nn ?_
      refine T.condD rfl (fun hc5 => ?_) (fun hc5 => ?_)
      · refine T.seq ?_
        refine T.reg ?_
        refine TO.p (DP.bdL (vs := []) (us := arV ar0) trivial pc34 zr34 rfl) ?_
        refine TO.n0 (N.stA (vs := arV ar0) rfl rfl sz34 (by (repeat first | exact Put.head _ _ _ | apply Put.tail)) (by simp [frV, arV, fr0, ar0]) (by simp [frV, arV, fr0, ar0, str, Value.oneCell']) (by rfl)) ?_
        rintro _ _ ⟨rfl, rfl⟩
        rw [show setAll _ 0 (arV ar0) = arV ar0 from rfl]
        refine TO.p (DP.as (by conv => lhs; whnf)) ?_
        refine TO.p (DP.as (by conv => lhs; whnf)) ?_
        refine TO.nil ?_
        refine TQ.nn ?_
        refine T.ret ?_
        refine TQ.br ?_
        refine TQ.nr ?_
        rw [take_bad (.inr (.inl hc2))]
        refine TQ.ret (vs := [.agg (arV ar0).toArray, .bool false, .int .i64 (2 : Nat)]) (L' := [row 64 p (tabV q v), sl 40 3 v (l).length ((l).flatMap nearV)]) rfl ⟨RV.atA rfl ag34 sz34 (by (repeat first | exact LMem.head _ _ | apply LMem.tail)) rfl, rfl, rfl, rfl⟩ ⟨rfl, _, rfl⟩ (by (refine Ent.imp ?_; repeat first | exact Imp.refl _ | exact Imp.nil _ | (apply Imp.pull; focus ((repeat first | exact Del.head _ _ | apply Del.tail); done)) | (apply Imp.row; focus ((repeat first | exact Del.head _ _ | apply Del.tail); done)) | apply Imp.drop))
      · exact absurd hc2 hc5
    · refine T.seq ?_
      refine T.reg ?_
      refine TO.p (DP.fa 1 rfl Tryd.underlying34 rfl rfl sz9) ?_
      refine TO.d (D.ldR (v := str a.f) rfl pl9 (by (repeat first | exact LMem.head _ _ | apply LMem.tail)) rfl) ?_
      refine TO.n (N.callF (alone_spec a.f haf) Tryd.call24 ⟨rfl, trivial⟩ (by (repeat first | exact Pick.nil _ | (apply Pick.cons; focus ((repeat first | exact Del.head _ _ | apply Del.tail); done))))) ?_
      rintro u24 _ ⟨_, ⟨rfl, rfl⟩, rfl⟩
      try simp only [List.cons_append, List.nil_append]
      refine TO.p (DP.not rfl) ?_
      refine TO.p (DP.as (by conv => lhs; whnf)) ?_
      refine TO.nil ?_
      refine TQ.nn ?_
      refine T.condB rfl (fun hc3 => ?_) (fun hc3 => ?_)
      · refine T.skip ?_
        refine TQ.nn ?_
        refine T.condB rfl (fun hc5 => ?_) (fun hc5 => ?_)
        · refine T.seq ?_
          refine T.reg ?_
          refine TO.p (DP.bdL (vs := []) (us := arV ar0) trivial pc34 zr34 rfl) ?_
          refine TO.n0 (N.stA (vs := arV ar0) rfl rfl sz34 (by (repeat first | exact Put.head _ _ _ | apply Put.tail)) (by simp [frV, arV, fr0, ar0]) (by simp [frV, arV, fr0, ar0, str, Value.oneCell']) (by rfl)) ?_
          rintro _ _ ⟨rfl, rfl⟩
          rw [show setAll _ 0 (arV ar0) = arV ar0 from rfl]
          refine TO.p (DP.as (by conv => lhs; whnf)) ?_
          refine TO.p (DP.as (by conv => lhs; whnf)) ?_
          refine TO.nil ?_
          refine TQ.nn ?_
          refine T.ret ?_
          refine TQ.br ?_
          refine TQ.nr ?_
          rw [take_bad (.inr (.inr (.inl (by simpa using hc3))))]
          refine TQ.ret (vs := [.agg (arV ar0).toArray, .bool false, .int .i64 (2 : Nat)]) (L' := [row 64 p (tabV q v), sl 40 3 v (l).length ((l).flatMap nearV)]) rfl ⟨RV.atA rfl ag34 sz34 (by (repeat first | exact LMem.head _ _ | apply LMem.tail)) rfl, rfl, rfl, rfl⟩ ⟨rfl, _, rfl⟩ (by (refine Ent.imp ?_; repeat first | exact Imp.refl _ | exact Imp.nil _ | (apply Imp.pull; focus ((repeat first | exact Del.head _ _ | apply Del.tail); done)) | (apply Imp.row; focus ((repeat first | exact Del.head _ _ | apply Del.tail); done)) | apply Imp.drop))
        · rw [hc3] at hc5; cases hc5
      · refine T.seq ?_
        refine T.reg ?_
        refine TO.p (DP.fa 2 rfl Tryd.underlying34 rfl rfl sz26) ?_
        refine TO.d (D.ldR (v := .int .u32 a.fa) rfl pl26 (by (repeat first | exact LMem.head _ _ | apply LMem.tail)) rfl) ?_
        refine TO.n (N.callF (aloneA_spec a.fa hfa) Tryd.call25 ⟨rfl, trivial⟩ (by (repeat first | exact Pick.nil _ | (apply Pick.cons; focus ((repeat first | exact Del.head _ _ | apply Del.tail); done))))) ?_
        rintro u28 _ ⟨_, ⟨rfl, rfl⟩, rfl⟩
        try simp only [List.cons_append, List.nil_append]
        refine TO.p (DP.not rfl) ?_
        refine TO.p (DP.as (by conv => lhs; whnf)) ?_
        refine TO.nil ?_
        refine TQ.nn ?_
        refine T.condB rfl (fun hc4 => ?_) (fun hc4 => ?_)
        · refine T.skip ?_
          refine TQ.nn ?_
          refine T.condB rfl (fun hc5 => ?_) (fun hc5 => ?_)
          · refine T.seq ?_
            refine T.reg ?_
            refine TO.p (DP.bdL (vs := []) (us := arV ar0) trivial pc34 zr34 rfl) ?_
            refine TO.n0 (N.stA (vs := arV ar0) rfl rfl sz34 (by (repeat first | exact Put.head _ _ _ | apply Put.tail)) (by simp [frV, arV, fr0, ar0]) (by simp [frV, arV, fr0, ar0, str, Value.oneCell']) (by rfl)) ?_
            rintro _ _ ⟨rfl, rfl⟩
            rw [show setAll _ 0 (arV ar0) = arV ar0 from rfl]
            refine TO.p (DP.as (by conv => lhs; whnf)) ?_
            refine TO.p (DP.as (by conv => lhs; whnf)) ?_
            refine TO.nil ?_
            refine TQ.nn ?_
            refine T.ret ?_
            refine TQ.br ?_
            refine TQ.nr ?_
            rw [take_bad (.inr (.inr (.inr (.inl (by simpa using hc4)))))]
            refine TQ.ret (vs := [.agg (arV ar0).toArray, .bool false, .int .i64 (2 : Nat)]) (L' := [row 64 p (tabV q v), sl 40 3 v (l).length ((l).flatMap nearV)]) rfl ⟨RV.atA rfl ag34 sz34 (by (repeat first | exact LMem.head _ _ | apply LMem.tail)) rfl, rfl, rfl, rfl⟩ ⟨rfl, _, rfl⟩ (by (refine Ent.imp ?_; repeat first | exact Imp.refl _ | exact Imp.nil _ | (apply Imp.pull; focus ((repeat first | exact Del.head _ _ | apply Del.tail); done)) | (apply Imp.row; focus ((repeat first | exact Del.head _ _ | apply Del.tail); done)) | apply Imp.drop))
          · rw [hc4] at hc5; cases hc5
        · refine T.drawL [] mixed (by repeat first | exact Calm.rt | apply Calm.t | apply Calm.b | apply Calm.l | apply Calm.ct) ?_
          refine TR.p 0 rfl (by kernel_rfl) (DP.fa 2 rfl Tryd.underlying34 rfl rfl sz26) ?_
          refine TR.d 1 rfl (by kernel_rfl) (by kernel_rfl) (by (refine Ent.imp ?_; repeat first | exact Imp.refl _ | exact Imp.nil _ | (apply Imp.pull; focus ((repeat first | exact Del.head _ _ | apply Del.tail); done)) | (apply Imp.row; focus ((repeat first | exact Del.head _ _ | apply Del.tail); done)) | apply Imp.drop)) (D.ldR (v := .int .u32 a.fa) rfl pl26 (by (repeat first | exact LMem.head _ _ | apply LMem.tail)) rfl) ?_
          refine TR.p 2 rfl (by kernel_rfl) (DP.mv (by conv => lhs; whnf)) ?_
          refine TR.p 3 rfl (by kernel_rfl) (DP.nck rfl) ?_
          refine TR.p 4 rfl (by kernel_rfl) (DP.fa 1 rfl Tryd.underlying64 rfl rfl sz26) ?_
          refine TR.d 5 rfl (by kernel_rfl) (by kernel_rfl) (by (refine Ent.imp ?_; repeat first | exact Imp.refl _ | exact Imp.nil _ | (apply Imp.pull; focus ((repeat first | exact Del.head _ _ | apply Del.tail); done)) | (apply Imp.row; focus ((repeat first | exact Del.head _ _ | apply Del.tail); done)) | apply Imp.drop)) (D.ldR (v := .int .u32 q.addr) rfl pl26 (by (repeat first | exact LMem.head _ _ | apply LMem.tail)) rfl) ?_
          refine TR.p 6 rfl (by kernel_rfl) ((by first | exact DP.eql rfl rfl | exact DP.eqlI rfl rfl)) ?_
          refine TR.p 7 rfl (by kernel_rfl) (DP.as (by conv => lhs; whnf)) ?_
          refine TR.done (by kernel_rfl) ?_
          refine TQ.nn ?_
          refine T.condD rfl (fun hc5 => ?_) (fun hc5 => ?_)
          · refine T.seq ?_
            refine T.reg ?_
            refine TO.p (DP.bdL (vs := []) (us := arV ar0) trivial pc34 zr34 rfl) ?_
            refine TO.n0 (N.stA (vs := arV ar0) rfl rfl sz34 (by (repeat first | exact Put.head _ _ _ | apply Put.tail)) (by simp [frV, arV, fr0, ar0]) (by simp [frV, arV, fr0, ar0, str, Value.oneCell']) (by rfl)) ?_
            rintro _ _ ⟨rfl, rfl⟩
            rw [show setAll _ 0 (arV ar0) = arV ar0 from rfl]
            refine TO.p (DP.as (by conv => lhs; whnf)) ?_
            refine TO.p (DP.as (by conv => lhs; whnf)) ?_
            refine TO.nil ?_
            refine TQ.nn ?_
            refine T.ret ?_
            refine TQ.br ?_
            refine TQ.nr ?_
            rw [take_bad (.inr (.inr (.inr (.inr hc5))))]
            refine TQ.ret (vs := [.agg (arV ar0).toArray, .bool false, .int .i64 (2 : Nat)]) (L' := [row 64 p (tabV q v), sl 40 3 v (l).length ((l).flatMap nearV)]) rfl ⟨RV.atA rfl ag34 sz34 (by (repeat first | exact LMem.head _ _ | apply LMem.tail)) rfl, rfl, rfl, rfl⟩ ⟨rfl, _, rfl⟩ (by (refine Ent.imp ?_; repeat first | exact Imp.refl _ | exact Imp.nil _ | (apply Imp.pull; focus ((repeat first | exact Del.head _ _ | apply Del.tail); done)) | (apply Imp.row; focus ((repeat first | exact Del.head _ _ | apply Del.tail); done)) | apply Imp.drop))
          · have hnb : ¬ (mayE a = false ∨ 4611686018427387904 ≤ now ∨ aloneE a.f = false ∨ aloneA a.fa = false ∨ a.fa = q.addr) := by
              rintro (h | h | h | h | h)
              · rw [h] at hc1; cases hc1
              · exact hc2 h
              · rw [h] at hc3; cases hc3
              · rw [h] at hc4; cases hc4
              · exact hc5 h
            have htl := tidy_len l now
            refine T.skip ?_
            refine TQ.bn ?_
            refine TQ.nn ?_
            refine T.seq ?_
            refine T.reg ?_
            refine TO.p (DP.mv (by conv => lhs; whnf)) ?_
            refine TO.p (DP.mv (by conv => lhs; whnf)) ?_
            refine TO.n (N.callF (tidy_spec q l v p hlen now) Tryd.call34 ⟨rfl, rfl, trivial⟩ (by (repeat first | exact Pick.nil _ | (apply Pick.cons; focus ((repeat first | exact Del.head _ _ | apply Del.tail); done))))) ?_
            rintro u40 _ ⟨_, ⟨rfl, v2, rfl⟩, rfl⟩
            try simp only [List.cons_append, List.nil_append]
            refine TO.nil ?_
            refine TQ.nn ?_
            refine T.seq ?_
            refine T.drawL [] mixed (by repeat first | exact Calm.rt | apply Calm.t | apply Calm.b | apply Calm.l | apply Calm.ct) ?_
            refine TR.p 0 rfl (by kernel_rfl) (DP.fa 4 rfl Tryd.underlying34 rfl rfl sz26) ?_
            refine TR.d 1 rfl (by kernel_rfl) (by kernel_rfl) (by (refine Ent.imp ?_; repeat first | exact Imp.refl _ | exact Imp.nil _ | (apply Imp.pull; focus ((repeat first | exact Del.head _ _ | apply Del.tail); done)) | (apply Imp.row; focus ((repeat first | exact Del.head _ _ | apply Del.tail); done)) | apply Imp.drop)) (D.ldR (v := .int .u32 a.ta) rfl pl26 (by (repeat first | exact LMem.head _ _ | apply LMem.tail)) rfl) ?_
            refine TR.p 2 rfl (by kernel_rfl) (DP.mv (by conv => lhs; whnf)) ?_
            refine TR.p 3 rfl (by kernel_rfl) (DP.nck rfl) ?_
            refine TR.p 4 rfl (by kernel_rfl) (DP.fa 1 rfl Tryd.underlying64 rfl rfl sz26) ?_
            refine TR.d 5 rfl (by kernel_rfl) (by kernel_rfl) (by (refine Ent.imp ?_; repeat first | exact Imp.refl _ | exact Imp.nil _ | (apply Imp.pull; focus ((repeat first | exact Del.head _ _ | apply Del.tail); done)) | (apply Imp.row; focus ((repeat first | exact Del.head _ _ | apply Del.tail); done)) | apply Imp.drop)) (D.ldR (v := .int .u32 q.addr) rfl pl26 (by (repeat first | exact LMem.head _ _ | apply LMem.tail)) rfl) ?_
            refine TR.p 6 rfl (by kernel_rfl) ((by first | exact DP.eql rfl rfl | exact DP.eqlI rfl rfl)) ?_
            refine TR.p 7 rfl (by kernel_rfl) (DP.as (by conv => lhs; whnf)) ?_
            refine TR.done (by kernel_rfl) ?_
            refine TQ.nn ?_
            refine T.seq ?_
            refine T.seq ?_
            refine T.reg ?_
            refine TO.p (DP.mv (by conv => lhs; whnf)) ?_
            refine TO.p (DP.fa 2 rfl Tryd.underlying34 rfl rfl sz26) ?_
            refine TO.d (D.ldR (v := .int .u32 a.fa) rfl pl26 (by (repeat first | exact LMem.head _ _ | apply LMem.tail)) rfl) ?_
            refine TO.n (N.callF (find_spec q (tidyE now l) v2 p (by omega) a.fa (tidy_srt hs)) Tryd.call35 ⟨rfl, rfl, trivial⟩ (by (repeat first | exact Pick.nil _ | (apply Pick.cons; focus ((repeat first | exact Del.head _ _ | apply Del.tail); done))))) ?_
            rintro u52 _ ⟨_, ⟨rfl, rfl⟩, rfl⟩
            try simp only [List.cons_append, List.nil_append]
            refine TO.p (DP.mv (by conv => lhs; whnf)) ?_
            refine TO.p (DP.ex rfl rfl) ?_
            refine TO.p (DP.ex rfl rfl) ?_
            refine TO.p (DP.as (by conv => lhs; whnf)) ?_
            refine TO.p (DP.as (by conv => lhs; whnf)) ?_
            refine TO.nil ?_
            refine TQ.nn ?_
            refine T.seq ?_
            refine T.reg ?_
            refine TO.p (DP.mv (by conv => lhs; whnf)) ?_
            refine TO.pb (DP.mv (by conv => lhs; whnf)) (fun hg56 => ?_) (fun hg56 => ?_)
            · refine TO.off rfl rfl ?_
              refine TO.p (DP.pkT rfl (by conv => lhs; whnf)) ?_
              refine TO.nil ?_
              refine TQ.nn ?_
              refine T.condT rfl ?_
              refine T.reg ?_
              refine TO.p (DP.mv (by conv => lhs; whnf)) ?_
              refine TO.p (DP.fa 2 rfl Tryd.underlying34 rfl rfl sz26) ?_
              refine TO.d (D.ldR (v := .int .u32 a.fa) rfl pl26 (by (repeat first | exact LMem.head _ _ | apply LMem.tail)) rfl) ?_
              refine TO.p (DP.fa 1 rfl Tryd.underlying34 rfl rfl sz9) ?_
              refine TO.d (D.ldR (v := str a.f) rfl pl9 (by (repeat first | exact LMem.head _ _ | apply LMem.tail)) rfl) ?_
              refine TO.p (DP.mv (by conv => lhs; whnf)) ?_
              refine TO.n (N.callF (learn_spec q (tidyE now l) v2 p (by omega) a.fa a.f now hq (tidy_srt hs) hfa haf) Tryd.call12 ⟨rfl, rfl, rfl, rfl, trivial⟩ (by (repeat first | exact Pick.nil _ | (apply Pick.cons; focus ((repeat first | exact Del.head _ _ | apply Del.tail); done))))) ?_
              rintro u65 _ ⟨_, ⟨rfl, v3, rfl⟩, rfl⟩
              try simp only [List.cons_append, List.nil_append]
              refine TO.nil ?_
              refine TQ.nn ?_
              refine T.seq ?_
              refine T.seq ?_
              refine T.reg ?_
              refine TO.p (DP.mv (by conv => lhs; whnf)) ?_
              refine TO.p (DP.to (v' := .bool (decide (a.ta ≠ q.addr))) (DP.not rfl) (by simp)) ?_
              refine TO.pB (DP.mv (by conv => lhs; whnf)) (fun hg68 => ?_) (fun hg68 => ?_)
              · refine TO.off rfl rfl ?_
                refine TO.off rfl rfl ?_
                refine TO.off rfl rfl ?_
                refine TO.p (DP.pkT rfl (by conv => lhs; whnf)) ?_
                refine TO.nil ?_
                refine TQ.nn ?_
                refine T.condT rfl ?_
                refine T.seq ?_
                refine T.reg ?_
                refine TO.p (DP.bdL (vs := []) (us := arV ar0) trivial pc34 zr34 rfl) ?_
                refine TO.n0 (N.stA (vs := arV ar0) rfl rfl sz34 (by (repeat first | exact Put.head _ _ _ | apply Put.tail)) (by simp [frV, arV, fr0, ar0]) (by simp [frV, arV, fr0, ar0, str, Value.oneCell']) (by rfl)) ?_
                rintro _ _ ⟨rfl, rfl⟩
                rw [show setAll _ 0 (arV ar0) = arV ar0 from rfl]
                refine TO.p (DP.as (by conv => lhs; whnf)) ?_
                refine TO.p (DP.as (by conv => lhs; whnf)) ?_
                refine TO.nil ?_
                refine TQ.nn ?_
                refine T.ret ?_
                refine TQ.nr ?_
                rw [take_ok hnb, if_pos (.inl hg56), if_pos (.inl hg68)]
                refine TQ.ret (vs := [.agg (arV ar0).toArray, .bool false, .int .i64 (0 : Nat)]) (L' := [row 64 p (tabV q v3), sl 40 3 v3 ((learnE q (tidyE now l) a.fa a.f now).1).length (((learnE q (tidyE now l) a.fa a.f now).1).flatMap nearV)]) rfl ⟨RV.atA rfl ag34 sz34 (by (repeat first | exact LMem.head _ _ | apply LMem.tail)) rfl, rfl, rfl, rfl⟩ ⟨rfl, _, rfl⟩ (by (refine Ent.imp ?_; repeat first | exact Imp.refl _ | exact Imp.nil _ | (apply Imp.pull; focus ((repeat first | exact Del.head _ _ | apply Del.tail); done)) | (apply Imp.row; focus ((repeat first | exact Del.head _ _ | apply Del.tail); done)) | apply Imp.drop))
              · refine TO.onP rfl (DP.fa 0 rfl Tryd.underlying34 rfl rfl sz22) ?_
                refine TO.onD rfl (D.ldR (v := .int .u16 a.op) rfl pl22 (by (repeat first | exact LMem.head _ _ | apply LMem.tail)) rfl) ?_
                refine TO.onP rfl ((by first | exact DP.neq (b := 1) rfl rfl | exact DP.neqI rfl rfl)) ?_
                refine TO.p (DP.pkF rfl (by conv => lhs; whnf)) ?_
                refine TO.nil ?_
                refine TQ.nn ?_
                refine T.condD rfl (fun hc7 => ?_) (fun hc7 => ?_)
                · refine T.seq ?_
                  refine T.reg ?_
                  refine TO.p (DP.bdL (vs := []) (us := arV ar0) trivial pc34 zr34 rfl) ?_
                  refine TO.n0 (N.stA (vs := arV ar0) rfl rfl sz34 (by (repeat first | exact Put.head _ _ _ | apply Put.tail)) (by simp [frV, arV, fr0, ar0]) (by simp [frV, arV, fr0, ar0, str, Value.oneCell']) (by rfl)) ?_
                  rintro _ _ ⟨rfl, rfl⟩
                  rw [show setAll _ 0 (arV ar0) = arV ar0 from rfl]
                  refine TO.p (DP.as (by conv => lhs; whnf)) ?_
                  refine TO.p (DP.as (by conv => lhs; whnf)) ?_
                  refine TO.nil ?_
                  refine TQ.nn ?_
                  refine T.ret ?_
                  refine TQ.nr ?_
                  rw [take_ok hnb, if_pos (.inl hg56), if_pos (.inr hc7)]
                  refine TQ.ret (vs := [.agg (arV ar0).toArray, .bool false, .int .i64 (0 : Nat)]) (L' := [row 64 p (tabV q v3), sl 40 3 v3 ((learnE q (tidyE now l) a.fa a.f now).1).length (((learnE q (tidyE now l) a.fa a.f now).1).flatMap nearV)]) rfl ⟨RV.atA rfl ag34 sz34 (by (repeat first | exact LMem.head _ _ | apply LMem.tail)) rfl, rfl, rfl, rfl⟩ ⟨rfl, _, rfl⟩ (by (refine Ent.imp ?_; repeat first | exact Imp.refl _ | exact Imp.nil _ | (apply Imp.pull; focus ((repeat first | exact Del.head _ _ | apply Del.tail); done)) | (apply Imp.row; focus ((repeat first | exact Del.head _ _ | apply Del.tail); done)) | apply Imp.drop))
                · refine T.skip ?_
                  refine TQ.nn ?_
                  refine T.seq ?_
                  refine T.drawL [13] mixed (by repeat first | exact Calm.rt | apply Calm.t | apply Calm.b | apply Calm.l | apply Calm.ct) ?_
                  refine TR.p 0 rfl (by kernel_rfl) (DP.mv (by conv => lhs; whnf)) ?_
                  refine TR.p 1 rfl (by kernel_rfl) (DP.nck rfl) ?_
                  refine TR.p 2 rfl (by kernel_rfl) (DP.fa 0 rfl Tryd.underlying64 rfl rfl sz9) ?_
                  refine TR.d 3 rfl (by kernel_rfl) (by kernel_rfl) (by (refine Ent.imp ?_; repeat first | exact Imp.refl _ | exact Imp.nil _ | (apply Imp.pull; focus ((repeat first | exact Del.head _ _ | apply Del.tail); done)) | (apply Imp.row; focus ((repeat first | exact Del.head _ _ | apply Del.tail); done)) | apply Imp.drop)) (D.ldR (v := str q.mac) rfl pl9 (by (repeat first | exact LMem.head _ _ | apply LMem.tail)) rfl) ?_
                  refine TR.p 4 rfl (by kernel_rfl) (DP.mv (by conv => lhs; whnf)) ?_
                  refine TR.p 5 rfl (by kernel_rfl) (DP.nck rfl) ?_
                  refine TR.p 6 rfl (by kernel_rfl) (DP.fa 1 rfl Tryd.underlying64 rfl rfl sz26) ?_
                  refine TR.d 7 rfl (by kernel_rfl) (by kernel_rfl) (by (refine Ent.imp ?_; repeat first | exact Imp.refl _ | exact Imp.nil _ | (apply Imp.pull; focus ((repeat first | exact Del.head _ _ | apply Del.tail); done)) | (apply Imp.row; focus ((repeat first | exact Del.head _ _ | apply Del.tail); done)) | apply Imp.drop)) (D.ldR (v := .int .u32 q.addr) rfl pl26 (by (repeat first | exact LMem.head _ _ | apply LMem.tail)) rfl) ?_
                  refine TR.p 8 rfl (by kernel_rfl) (DP.fa 1 rfl Tryd.underlying34 rfl rfl sz9) ?_
                  refine TR.d 9 rfl (by kernel_rfl) (by kernel_rfl) (by (refine Ent.imp ?_; repeat first | exact Imp.refl _ | exact Imp.nil _ | (apply Imp.pull; focus ((repeat first | exact Del.head _ _ | apply Del.tail); done)) | (apply Imp.row; focus ((repeat first | exact Del.head _ _ | apply Del.tail); done)) | apply Imp.drop)) (D.ldR (v := str a.f) rfl pl9 (by (repeat first | exact LMem.head _ _ | apply LMem.tail)) rfl) ?_
                  refine TR.p 10 rfl (by kernel_rfl) (DP.fa 2 rfl Tryd.underlying34 rfl rfl sz26) ?_
                  refine TR.d 11 rfl (by kernel_rfl) (by kernel_rfl) (by (refine Ent.imp ?_; repeat first | exact Imp.refl _ | exact Imp.nil _ | (apply Imp.pull; focus ((repeat first | exact Del.head _ _ | apply Del.tail); done)) | (apply Imp.row; focus ((repeat first | exact Del.head _ _ | apply Del.tail); done)) | apply Imp.drop)) (D.ldR (v := .int .u32 a.fa) rfl pl26 (by (repeat first | exact LMem.head _ _ | apply LMem.tail)) rfl) ?_
                  refine TR.p 12 rfl (by kernel_rfl) (DP.bdL (vs := [(0, _), (1, _), (2, _), (3, _), (4, _)]) (us := arV ⟨2, q.mac, q.addr, a.f, a.fa⟩) ⟨rfl, rfl, rfl, rfl, rfl, rfl, rfl, rfl, rfl, rfl, trivial⟩ pc34 zr34 rfl) ?_
                  refine TR.n0 13 (by kernel_rfl) rfl (N.stA (vs := arV ⟨2, q.mac, q.addr, a.f, a.fa⟩) rfl rfl sz34 (by (repeat first | exact Put.head _ _ _ | apply Put.tail)) (by simp [frV, arV, fr0, ar0]) (by simp [frV, arV, fr0, ar0, str, Value.oneCell']) (by rfl)) ?_
                  rintro _ _ ⟨rfl, rfl⟩
                  rw [show setAll _ 0 (arV ⟨2, q.mac, q.addr, a.f, a.fa⟩) = arV ⟨2, q.mac, q.addr, a.f, a.fa⟩ from rfl]
                  refine ⟨.inl rfl, ?_⟩
                  refine TR.p 14 rfl (by kernel_rfl) (DP.as (by conv => lhs; whnf)) ?_
                  refine TR.p 15 rfl (by kernel_rfl) (DP.as (by conv => lhs; whnf)) ?_
                  refine TR.done (by kernel_rfl) ?_
                  refine TQ.nn ?_
                  refine T.ret ?_
                  rw [take_ok hnb, if_pos (.inl hg56), if_neg (by rintro (h | h); exact hg68 h; exact hc7 h)]
                  refine TQ.ret (vs := [.agg (arV ⟨2, q.mac, q.addr, a.f, a.fa⟩).toArray, .bool true, .int .i64 (0 : Nat)]) (L' := [row 64 p (tabV q v3), sl 40 3 v3 ((learnE q (tidyE now l) a.fa a.f now).1).length (((learnE q (tidyE now l) a.fa a.f now).1).flatMap nearV)]) rfl ⟨RV.atA rfl ag34 sz34 (by (repeat first | exact LMem.head _ _ | apply LMem.tail)) rfl, rfl, rfl, rfl⟩ ⟨rfl, _, rfl⟩ (by (refine Ent.imp ?_; repeat first | exact Imp.refl _ | exact Imp.nil _ | (apply Imp.pull; focus ((repeat first | exact Del.head _ _ | apply Del.tail); done)) | (apply Imp.row; focus ((repeat first | exact Del.head _ _ | apply Del.tail); done)) | apply Imp.drop))
            · refine TO.onP rfl (DP.mv (by conv => lhs; whnf)) ?_
              refine TO.p (DP.pkF rfl (by conv => lhs; whnf)) ?_
              refine TO.nil ?_
              refine TQ.nn ?_
              refine T.condD rfl (fun hc6 => ?_) (fun hc6 => ?_)
              · refine T.reg ?_
                refine TO.p (DP.mv (by conv => lhs; whnf)) ?_
                refine TO.p (DP.fa 2 rfl Tryd.underlying34 rfl rfl sz26) ?_
                refine TO.d (D.ldR (v := .int .u32 a.fa) rfl pl26 (by (repeat first | exact LMem.head _ _ | apply LMem.tail)) rfl) ?_
                refine TO.p (DP.fa 1 rfl Tryd.underlying34 rfl rfl sz9) ?_
                refine TO.d (D.ldR (v := str a.f) rfl pl9 (by (repeat first | exact LMem.head _ _ | apply LMem.tail)) rfl) ?_
                refine TO.p (DP.mv (by conv => lhs; whnf)) ?_
                refine TO.n (N.callF (learn_spec q (tidyE now l) v2 p (by omega) a.fa a.f now hq (tidy_srt hs) hfa haf) Tryd.call12 ⟨rfl, rfl, rfl, rfl, trivial⟩ (by (repeat first | exact Pick.nil _ | (apply Pick.cons; focus ((repeat first | exact Del.head _ _ | apply Del.tail); done))))) ?_
                rintro u65 _ ⟨_, ⟨rfl, v3, rfl⟩, rfl⟩
                try simp only [List.cons_append, List.nil_append]
                refine TO.nil ?_
                refine TQ.nn ?_
                refine T.seq ?_
                refine T.seq ?_
                refine T.reg ?_
                refine TO.p (DP.mv (by conv => lhs; whnf)) ?_
                refine TO.p (DP.to (v' := .bool (decide (a.ta ≠ q.addr))) (DP.not rfl) (by simp)) ?_
                refine TO.pB (DP.mv (by conv => lhs; whnf)) (fun hg68 => ?_) (fun hg68 => ?_)
                · refine TO.off rfl rfl ?_
                  refine TO.off rfl rfl ?_
                  refine TO.off rfl rfl ?_
                  refine TO.p (DP.pkT rfl (by conv => lhs; whnf)) ?_
                  refine TO.nil ?_
                  refine TQ.nn ?_
                  refine T.condT rfl ?_
                  refine T.seq ?_
                  refine T.reg ?_
                  refine TO.p (DP.bdL (vs := []) (us := arV ar0) trivial pc34 zr34 rfl) ?_
                  refine TO.n0 (N.stA (vs := arV ar0) rfl rfl sz34 (by (repeat first | exact Put.head _ _ _ | apply Put.tail)) (by simp [frV, arV, fr0, ar0]) (by simp [frV, arV, fr0, ar0, str, Value.oneCell']) (by rfl)) ?_
                  rintro _ _ ⟨rfl, rfl⟩
                  rw [show setAll _ 0 (arV ar0) = arV ar0 from rfl]
                  refine TO.p (DP.as (by conv => lhs; whnf)) ?_
                  refine TO.p (DP.as (by conv => lhs; whnf)) ?_
                  refine TO.nil ?_
                  refine TQ.nn ?_
                  refine T.ret ?_
                  refine TQ.nr ?_
                  rw [take_ok hnb, if_pos (.inr hc6), if_pos (.inl hg68)]
                  refine TQ.ret (vs := [.agg (arV ar0).toArray, .bool false, .int .i64 (0 : Nat)]) (L' := [row 64 p (tabV q v3), sl 40 3 v3 ((learnE q (tidyE now l) a.fa a.f now).1).length (((learnE q (tidyE now l) a.fa a.f now).1).flatMap nearV)]) rfl ⟨RV.atA rfl ag34 sz34 (by (repeat first | exact LMem.head _ _ | apply LMem.tail)) rfl, rfl, rfl, rfl⟩ ⟨rfl, _, rfl⟩ (by (refine Ent.imp ?_; repeat first | exact Imp.refl _ | exact Imp.nil _ | (apply Imp.pull; focus ((repeat first | exact Del.head _ _ | apply Del.tail); done)) | (apply Imp.row; focus ((repeat first | exact Del.head _ _ | apply Del.tail); done)) | apply Imp.drop))
                · refine TO.onP rfl (DP.fa 0 rfl Tryd.underlying34 rfl rfl sz22) ?_
                  refine TO.onD rfl (D.ldR (v := .int .u16 a.op) rfl pl22 (by (repeat first | exact LMem.head _ _ | apply LMem.tail)) rfl) ?_
                  refine TO.onP rfl ((by first | exact DP.neq (b := 1) rfl rfl | exact DP.neqI rfl rfl)) ?_
                  refine TO.p (DP.pkF rfl (by conv => lhs; whnf)) ?_
                  refine TO.nil ?_
                  refine TQ.nn ?_
                  refine T.condD rfl (fun hc7 => ?_) (fun hc7 => ?_)
                  · refine T.seq ?_
                    refine T.reg ?_
                    refine TO.p (DP.bdL (vs := []) (us := arV ar0) trivial pc34 zr34 rfl) ?_
                    refine TO.n0 (N.stA (vs := arV ar0) rfl rfl sz34 (by (repeat first | exact Put.head _ _ _ | apply Put.tail)) (by simp [frV, arV, fr0, ar0]) (by simp [frV, arV, fr0, ar0, str, Value.oneCell']) (by rfl)) ?_
                    rintro _ _ ⟨rfl, rfl⟩
                    rw [show setAll _ 0 (arV ar0) = arV ar0 from rfl]
                    refine TO.p (DP.as (by conv => lhs; whnf)) ?_
                    refine TO.p (DP.as (by conv => lhs; whnf)) ?_
                    refine TO.nil ?_
                    refine TQ.nn ?_
                    refine T.ret ?_
                    refine TQ.nr ?_
                    rw [take_ok hnb, if_pos (.inr hc6), if_pos (.inr hc7)]
                    refine TQ.ret (vs := [.agg (arV ar0).toArray, .bool false, .int .i64 (0 : Nat)]) (L' := [row 64 p (tabV q v3), sl 40 3 v3 ((learnE q (tidyE now l) a.fa a.f now).1).length (((learnE q (tidyE now l) a.fa a.f now).1).flatMap nearV)]) rfl ⟨RV.atA rfl ag34 sz34 (by (repeat first | exact LMem.head _ _ | apply LMem.tail)) rfl, rfl, rfl, rfl⟩ ⟨rfl, _, rfl⟩ (by (refine Ent.imp ?_; repeat first | exact Imp.refl _ | exact Imp.nil _ | (apply Imp.pull; focus ((repeat first | exact Del.head _ _ | apply Del.tail); done)) | (apply Imp.row; focus ((repeat first | exact Del.head _ _ | apply Del.tail); done)) | apply Imp.drop))
                  · refine T.skip ?_
                    refine TQ.nn ?_
                    refine T.seq ?_
                    refine T.drawL [13] mixed (by repeat first | exact Calm.rt | apply Calm.t | apply Calm.b | apply Calm.l | apply Calm.ct) ?_
                    refine TR.p 0 rfl (by kernel_rfl) (DP.mv (by conv => lhs; whnf)) ?_
                    refine TR.p 1 rfl (by kernel_rfl) (DP.nck rfl) ?_
                    refine TR.p 2 rfl (by kernel_rfl) (DP.fa 0 rfl Tryd.underlying64 rfl rfl sz9) ?_
                    refine TR.d 3 rfl (by kernel_rfl) (by kernel_rfl) (by (refine Ent.imp ?_; repeat first | exact Imp.refl _ | exact Imp.nil _ | (apply Imp.pull; focus ((repeat first | exact Del.head _ _ | apply Del.tail); done)) | (apply Imp.row; focus ((repeat first | exact Del.head _ _ | apply Del.tail); done)) | apply Imp.drop)) (D.ldR (v := str q.mac) rfl pl9 (by (repeat first | exact LMem.head _ _ | apply LMem.tail)) rfl) ?_
                    refine TR.p 4 rfl (by kernel_rfl) (DP.mv (by conv => lhs; whnf)) ?_
                    refine TR.p 5 rfl (by kernel_rfl) (DP.nck rfl) ?_
                    refine TR.p 6 rfl (by kernel_rfl) (DP.fa 1 rfl Tryd.underlying64 rfl rfl sz26) ?_
                    refine TR.d 7 rfl (by kernel_rfl) (by kernel_rfl) (by (refine Ent.imp ?_; repeat first | exact Imp.refl _ | exact Imp.nil _ | (apply Imp.pull; focus ((repeat first | exact Del.head _ _ | apply Del.tail); done)) | (apply Imp.row; focus ((repeat first | exact Del.head _ _ | apply Del.tail); done)) | apply Imp.drop)) (D.ldR (v := .int .u32 q.addr) rfl pl26 (by (repeat first | exact LMem.head _ _ | apply LMem.tail)) rfl) ?_
                    refine TR.p 8 rfl (by kernel_rfl) (DP.fa 1 rfl Tryd.underlying34 rfl rfl sz9) ?_
                    refine TR.d 9 rfl (by kernel_rfl) (by kernel_rfl) (by (refine Ent.imp ?_; repeat first | exact Imp.refl _ | exact Imp.nil _ | (apply Imp.pull; focus ((repeat first | exact Del.head _ _ | apply Del.tail); done)) | (apply Imp.row; focus ((repeat first | exact Del.head _ _ | apply Del.tail); done)) | apply Imp.drop)) (D.ldR (v := str a.f) rfl pl9 (by (repeat first | exact LMem.head _ _ | apply LMem.tail)) rfl) ?_
                    refine TR.p 10 rfl (by kernel_rfl) (DP.fa 2 rfl Tryd.underlying34 rfl rfl sz26) ?_
                    refine TR.d 11 rfl (by kernel_rfl) (by kernel_rfl) (by (refine Ent.imp ?_; repeat first | exact Imp.refl _ | exact Imp.nil _ | (apply Imp.pull; focus ((repeat first | exact Del.head _ _ | apply Del.tail); done)) | (apply Imp.row; focus ((repeat first | exact Del.head _ _ | apply Del.tail); done)) | apply Imp.drop)) (D.ldR (v := .int .u32 a.fa) rfl pl26 (by (repeat first | exact LMem.head _ _ | apply LMem.tail)) rfl) ?_
                    refine TR.p 12 rfl (by kernel_rfl) (DP.bdL (vs := [(0, _), (1, _), (2, _), (3, _), (4, _)]) (us := arV ⟨2, q.mac, q.addr, a.f, a.fa⟩) ⟨rfl, rfl, rfl, rfl, rfl, rfl, rfl, rfl, rfl, rfl, trivial⟩ pc34 zr34 rfl) ?_
                    refine TR.n0 13 (by kernel_rfl) rfl (N.stA (vs := arV ⟨2, q.mac, q.addr, a.f, a.fa⟩) rfl rfl sz34 (by (repeat first | exact Put.head _ _ _ | apply Put.tail)) (by simp [frV, arV, fr0, ar0]) (by simp [frV, arV, fr0, ar0, str, Value.oneCell']) (by rfl)) ?_
                    rintro _ _ ⟨rfl, rfl⟩
                    rw [show setAll _ 0 (arV ⟨2, q.mac, q.addr, a.f, a.fa⟩) = arV ⟨2, q.mac, q.addr, a.f, a.fa⟩ from rfl]
                    refine ⟨.inl rfl, ?_⟩
                    refine TR.p 14 rfl (by kernel_rfl) (DP.as (by conv => lhs; whnf)) ?_
                    refine TR.p 15 rfl (by kernel_rfl) (DP.as (by conv => lhs; whnf)) ?_
                    refine TR.done (by kernel_rfl) ?_
                    refine TQ.nn ?_
                    refine T.ret ?_
                    rw [take_ok hnb, if_pos (.inr hc6), if_neg (by rintro (h | h); exact hg68 h; exact hc7 h)]
                    refine TQ.ret (vs := [.agg (arV ⟨2, q.mac, q.addr, a.f, a.fa⟩).toArray, .bool true, .int .i64 (0 : Nat)]) (L' := [row 64 p (tabV q v3), sl 40 3 v3 ((learnE q (tidyE now l) a.fa a.f now).1).length (((learnE q (tidyE now l) a.fa a.f now).1).flatMap nearV)]) rfl ⟨RV.atA rfl ag34 sz34 (by (repeat first | exact LMem.head _ _ | apply LMem.tail)) rfl, rfl, rfl, rfl⟩ ⟨rfl, _, rfl⟩ (by (refine Ent.imp ?_; repeat first | exact Imp.refl _ | exact Imp.nil _ | (apply Imp.pull; focus ((repeat first | exact Del.head _ _ | apply Del.tail); done)) | (apply Imp.row; focus ((repeat first | exact Del.head _ _ | apply Del.tail); done)) | apply Imp.drop))
              · refine T.skip ?_
                refine TQ.nn ?_
                refine T.seq ?_
                refine T.seq ?_
                refine T.reg ?_
                refine TO.p (DP.mv (by conv => lhs; whnf)) ?_
                refine TO.p (DP.to (v' := .bool (decide (a.ta ≠ q.addr))) (DP.not rfl) (by simp)) ?_
                refine TO.pB (DP.mv (by conv => lhs; whnf)) (fun hg68 => ?_) (fun hg68 => ?_)
                · refine TO.off rfl rfl ?_
                  refine TO.off rfl rfl ?_
                  refine TO.off rfl rfl ?_
                  refine TO.p (DP.pkT rfl (by conv => lhs; whnf)) ?_
                  refine TO.nil ?_
                  refine TQ.nn ?_
                  refine T.condT rfl ?_
                  refine T.seq ?_
                  refine T.reg ?_
                  refine TO.p (DP.bdL (vs := []) (us := arV ar0) trivial pc34 zr34 rfl) ?_
                  refine TO.n0 (N.stA (vs := arV ar0) rfl rfl sz34 (by (repeat first | exact Put.head _ _ _ | apply Put.tail)) (by simp [frV, arV, fr0, ar0]) (by simp [frV, arV, fr0, ar0, str, Value.oneCell']) (by rfl)) ?_
                  rintro _ _ ⟨rfl, rfl⟩
                  rw [show setAll _ 0 (arV ar0) = arV ar0 from rfl]
                  refine TO.p (DP.as (by conv => lhs; whnf)) ?_
                  refine TO.p (DP.as (by conv => lhs; whnf)) ?_
                  refine TO.nil ?_
                  refine TQ.nn ?_
                  refine T.ret ?_
                  refine TQ.nr ?_
                  rw [take_ok hnb, if_neg (by rintro (h | h); rw [hg56] at h; cases h; exact hc6 h), if_pos (.inl hg68)]
                  refine TQ.ret (vs := [.agg (arV ar0).toArray, .bool false, .int .i64 (0 : Nat)]) (L' := [row 64 p (tabV q v2), sl 40 3 v2 (tidyE now l).length ((tidyE now l).flatMap nearV)]) rfl ⟨RV.atA rfl ag34 sz34 (by (repeat first | exact LMem.head _ _ | apply LMem.tail)) rfl, rfl, rfl, rfl⟩ ⟨rfl, _, rfl⟩ (by (refine Ent.imp ?_; repeat first | exact Imp.refl _ | exact Imp.nil _ | (apply Imp.pull; focus ((repeat first | exact Del.head _ _ | apply Del.tail); done)) | (apply Imp.row; focus ((repeat first | exact Del.head _ _ | apply Del.tail); done)) | apply Imp.drop))
                · refine TO.onP rfl (DP.fa 0 rfl Tryd.underlying34 rfl rfl sz22) ?_
                  refine TO.onD rfl (D.ldR (v := .int .u16 a.op) rfl pl22 (by (repeat first | exact LMem.head _ _ | apply LMem.tail)) rfl) ?_
                  refine TO.onP rfl ((by first | exact DP.neq (b := 1) rfl rfl | exact DP.neqI rfl rfl)) ?_
                  refine TO.p (DP.pkF rfl (by conv => lhs; whnf)) ?_
                  refine TO.nil ?_
                  refine TQ.nn ?_
                  refine T.condD rfl (fun hc7 => ?_) (fun hc7 => ?_)
                  · refine T.seq ?_
                    refine T.reg ?_
                    refine TO.p (DP.bdL (vs := []) (us := arV ar0) trivial pc34 zr34 rfl) ?_
                    refine TO.n0 (N.stA (vs := arV ar0) rfl rfl sz34 (by (repeat first | exact Put.head _ _ _ | apply Put.tail)) (by simp [frV, arV, fr0, ar0]) (by simp [frV, arV, fr0, ar0, str, Value.oneCell']) (by rfl)) ?_
                    rintro _ _ ⟨rfl, rfl⟩
                    rw [show setAll _ 0 (arV ar0) = arV ar0 from rfl]
                    refine TO.p (DP.as (by conv => lhs; whnf)) ?_
                    refine TO.p (DP.as (by conv => lhs; whnf)) ?_
                    refine TO.nil ?_
                    refine TQ.nn ?_
                    refine T.ret ?_
                    refine TQ.nr ?_
                    rw [take_ok hnb, if_neg (by rintro (h | h); rw [hg56] at h; cases h; exact hc6 h), if_pos (.inr hc7)]
                    refine TQ.ret (vs := [.agg (arV ar0).toArray, .bool false, .int .i64 (0 : Nat)]) (L' := [row 64 p (tabV q v2), sl 40 3 v2 (tidyE now l).length ((tidyE now l).flatMap nearV)]) rfl ⟨RV.atA rfl ag34 sz34 (by (repeat first | exact LMem.head _ _ | apply LMem.tail)) rfl, rfl, rfl, rfl⟩ ⟨rfl, _, rfl⟩ (by (refine Ent.imp ?_; repeat first | exact Imp.refl _ | exact Imp.nil _ | (apply Imp.pull; focus ((repeat first | exact Del.head _ _ | apply Del.tail); done)) | (apply Imp.row; focus ((repeat first | exact Del.head _ _ | apply Del.tail); done)) | apply Imp.drop))
                  · refine T.skip ?_
                    refine TQ.nn ?_
                    refine T.seq ?_
                    refine T.drawL [13] mixed (by repeat first | exact Calm.rt | apply Calm.t | apply Calm.b | apply Calm.l | apply Calm.ct) ?_
                    refine TR.p 0 rfl (by kernel_rfl) (DP.mv (by conv => lhs; whnf)) ?_
                    refine TR.p 1 rfl (by kernel_rfl) (DP.nck rfl) ?_
                    refine TR.p 2 rfl (by kernel_rfl) (DP.fa 0 rfl Tryd.underlying64 rfl rfl sz9) ?_
                    refine TR.d 3 rfl (by kernel_rfl) (by kernel_rfl) (by (refine Ent.imp ?_; repeat first | exact Imp.refl _ | exact Imp.nil _ | (apply Imp.pull; focus ((repeat first | exact Del.head _ _ | apply Del.tail); done)) | (apply Imp.row; focus ((repeat first | exact Del.head _ _ | apply Del.tail); done)) | apply Imp.drop)) (D.ldR (v := str q.mac) rfl pl9 (by (repeat first | exact LMem.head _ _ | apply LMem.tail)) rfl) ?_
                    refine TR.p 4 rfl (by kernel_rfl) (DP.mv (by conv => lhs; whnf)) ?_
                    refine TR.p 5 rfl (by kernel_rfl) (DP.nck rfl) ?_
                    refine TR.p 6 rfl (by kernel_rfl) (DP.fa 1 rfl Tryd.underlying64 rfl rfl sz26) ?_
                    refine TR.d 7 rfl (by kernel_rfl) (by kernel_rfl) (by (refine Ent.imp ?_; repeat first | exact Imp.refl _ | exact Imp.nil _ | (apply Imp.pull; focus ((repeat first | exact Del.head _ _ | apply Del.tail); done)) | (apply Imp.row; focus ((repeat first | exact Del.head _ _ | apply Del.tail); done)) | apply Imp.drop)) (D.ldR (v := .int .u32 q.addr) rfl pl26 (by (repeat first | exact LMem.head _ _ | apply LMem.tail)) rfl) ?_
                    refine TR.p 8 rfl (by kernel_rfl) (DP.fa 1 rfl Tryd.underlying34 rfl rfl sz9) ?_
                    refine TR.d 9 rfl (by kernel_rfl) (by kernel_rfl) (by (refine Ent.imp ?_; repeat first | exact Imp.refl _ | exact Imp.nil _ | (apply Imp.pull; focus ((repeat first | exact Del.head _ _ | apply Del.tail); done)) | (apply Imp.row; focus ((repeat first | exact Del.head _ _ | apply Del.tail); done)) | apply Imp.drop)) (D.ldR (v := str a.f) rfl pl9 (by (repeat first | exact LMem.head _ _ | apply LMem.tail)) rfl) ?_
                    refine TR.p 10 rfl (by kernel_rfl) (DP.fa 2 rfl Tryd.underlying34 rfl rfl sz26) ?_
                    refine TR.d 11 rfl (by kernel_rfl) (by kernel_rfl) (by (refine Ent.imp ?_; repeat first | exact Imp.refl _ | exact Imp.nil _ | (apply Imp.pull; focus ((repeat first | exact Del.head _ _ | apply Del.tail); done)) | (apply Imp.row; focus ((repeat first | exact Del.head _ _ | apply Del.tail); done)) | apply Imp.drop)) (D.ldR (v := .int .u32 a.fa) rfl pl26 (by (repeat first | exact LMem.head _ _ | apply LMem.tail)) rfl) ?_
                    refine TR.p 12 rfl (by kernel_rfl) (DP.bdL (vs := [(0, _), (1, _), (2, _), (3, _), (4, _)]) (us := arV ⟨2, q.mac, q.addr, a.f, a.fa⟩) ⟨rfl, rfl, rfl, rfl, rfl, rfl, rfl, rfl, rfl, rfl, trivial⟩ pc34 zr34 rfl) ?_
                    refine TR.n0 13 (by kernel_rfl) rfl (N.stA (vs := arV ⟨2, q.mac, q.addr, a.f, a.fa⟩) rfl rfl sz34 (by (repeat first | exact Put.head _ _ _ | apply Put.tail)) (by simp [frV, arV, fr0, ar0]) (by simp [frV, arV, fr0, ar0, str, Value.oneCell']) (by rfl)) ?_
                    rintro _ _ ⟨rfl, rfl⟩
                    rw [show setAll _ 0 (arV ⟨2, q.mac, q.addr, a.f, a.fa⟩) = arV ⟨2, q.mac, q.addr, a.f, a.fa⟩ from rfl]
                    refine ⟨.inl rfl, ?_⟩
                    refine TR.p 14 rfl (by kernel_rfl) (DP.as (by conv => lhs; whnf)) ?_
                    refine TR.p 15 rfl (by kernel_rfl) (DP.as (by conv => lhs; whnf)) ?_
                    refine TR.done (by kernel_rfl) ?_
                    refine TQ.nn ?_
                    refine T.ret ?_
                    rw [take_ok hnb, if_neg (by rintro (h | h); rw [hg56] at h; cases h; exact hc6 h), if_neg (by rintro (h | h); exact hg68 h; exact hc7 h)]
                    refine TQ.ret (vs := [.agg (arV ⟨2, q.mac, q.addr, a.f, a.fa⟩).toArray, .bool true, .int .i64 (0 : Nat)]) (L' := [row 64 p (tabV q v2), sl 40 3 v2 (tidyE now l).length ((tidyE now l).flatMap nearV)]) rfl ⟨RV.atA rfl ag34 sz34 (by (repeat first | exact LMem.head _ _ | apply LMem.tail)) rfl, rfl, rfl, rfl⟩ ⟨rfl, _, rfl⟩ (by (refine Ent.imp ?_; repeat first | exact Imp.refl _ | exact Imp.nil _ | (apply Imp.pull; focus ((repeat first | exact Del.head _ _ | apply Del.tail); done)) | (apply Imp.row; focus ((repeat first | exact Del.head _ _ | apply Del.tail); done)) | apply Imp.drop))

theorem take_nil (a : Ar) (now : Nat) :
    Sat Tryd.prog 11 [.pointer none, .agg (arV a).toArray, .int .u64 now] [] (fun u L' => u = .tuple #[.agg (arV ar0).toArray, .bool false, .int .i64 (1 : Nat)] ∧ L' = []) := by
  refine Sat.enter Tryd.func11 rfl Tryd.ntmps11 rfl (fun c R => ?_)
  try simp only [List.cons_append, List.nil_append]
  refine T.seq ?_
  refine T.reg ?_
  refine TO.n (N.bxA (cs := arV a) rfl) ?_
  rintro _ _ ⟨b4, rfl, rfl⟩
  refine TO.n (N.alA zr34) ?_
  rintro _ _ ⟨b6, rfl, rfl⟩
  refine TO.p (DP.as (by conv => lhs; whnf)) ?_
  refine TO.p (DP.as (by conv => lhs; whnf)) ?_
  refine TO.nil ?_
  refine TQ.nn ?_
  refine T.seq ?_
  refine T.block ?_
  refine T.seq ?_
  refine T.reg ?_
  refine TO.p (DP.mv (by conv => lhs; whnf)) ?_
  refine TO.p (DP.peq0 rfl rfl Tryd.underlying27) ?_
  refine TO.p (DP.as (by conv => lhs; whnf)) ?_
  refine TO.nil ?_
  refine TQ.nn ?_
  refine T.condT rfl ?_
  refine T.seq ?_
  refine T.reg ?_
  refine TO.p (DP.bdL (vs := []) (us := arV ar0) trivial pc34 zr34 rfl) ?_
  refine TO.n0 (N.stA (vs := arV ar0) rfl rfl sz34 (by (repeat first | exact Put.head _ _ _ | apply Put.tail)) (by simp [frV, arV, fr0, ar0]) (by simp [frV, arV, fr0, ar0, str, Value.oneCell']) (by rfl)) ?_
  rintro _ _ ⟨rfl, rfl⟩
  rw [show setAll _ 0 (arV ar0) = arV ar0 from rfl]
  refine TO.p (DP.as (by conv => lhs; whnf)) ?_
  refine TO.p (DP.as (by conv => lhs; whnf)) ?_
  refine TO.nil ?_
  refine TQ.nn ?_
  refine T.ret ?_
  refine TQ.br ?_
  refine TQ.nr ?_
  refine TQ.ret (vs := [.agg (arV ar0).toArray, .bool false, .int .i64 (1 : Nat)]) (L' := []) rfl ⟨RV.atA rfl ag34 sz34 (by (repeat first | exact LMem.head _ _ | apply LMem.tail)) rfl, rfl, rfl, rfl⟩ ⟨rfl, rfl⟩ (by (refine Ent.imp ?_; repeat first | exact Imp.refl _ | exact Imp.nil _ | (apply Imp.pull; focus ((repeat first | exact Del.head _ _ | apply Del.tail); done)) | (apply Imp.row; focus ((repeat first | exact Del.head _ _ | apply Del.tail); done)) | apply Imp.drop))

theorem look_spec (q : Tb) (l : List Nr) (v : Value) (p : Nat) (hlen : l.length ≤ 1048576) (a : Nat) (now : Nat) (hs : Srt l) :
    Sat Tryd.prog 14 [.pointer (some ⟨p, 0, none⟩), .int .u32 a, .int .u64 now] [row 64 p (tabV q v), sl 40 3 v (l).length ((l).flatMap nearV)] (fun u L' => u = .tuple #[str (lookE l a now).2.1, .int .i64 ((lookE l a now).2.2 : Nat)] ∧ ∃ v2, L' = [row 64 p (tabV q v2), sl 40 3 v2 ((lookE l a now).1).length (((lookE l a now).1).flatMap nearV)]) := by
  refine Sat.enter Tryd.func14 rfl Tryd.ntmps14 rfl (fun c R => ?_)
  try simp only [List.cons_append, List.nil_append]
  refine T.seq ?_
  refine T.reg ?_
  refine TO.p (DP.as (by conv => lhs; whnf)) ?_
  refine TO.p (DP.as (by conv => lhs; whnf)) ?_
  refine TO.nil ?_
  refine TQ.nn ?_
  refine T.seq ?_
  refine T.block ?_
  refine T.seq ?_
  refine T.reg ?_
  refine TO.p (DP.mv (by conv => lhs; whnf)) ?_
  refine TO.p (DP.peqS rfl rfl Tryd.underlying27) ?_
  refine TO.p (DP.as (by conv => lhs; whnf)) ?_
  refine TO.nil ?_
  refine TQ.nn ?_
  refine T.condF rfl ?_
  refine T.seq ?_
  refine T.reg ?_
  refine TO.p (DP.mv (by conv => lhs; whnf)) ?_
  refine TO.p ((by first | exact DP.geq (b := 4611686018427387904) rfl rfl | exact DP.geqI rfl rfl)) ?_
  refine TO.p (DP.as (by conv => lhs; whnf)) ?_
  refine TO.nil ?_
  refine TQ.nn ?_
  refine T.condD rfl (fun hc1 => ?_) (fun hc1 => ?_)
  · refine T.seq ?_
    refine T.reg ?_
    refine TO.p (DP.as (by conv => lhs; whnf)) ?_
    refine TO.p (DP.as (by conv => lhs; whnf)) ?_
    refine TO.nil ?_
    refine TQ.nn ?_
    refine T.ret ?_
    refine TQ.br ?_
    refine TQ.nr ?_
    rw [look_bad hc1]
    refine TQ.ret (vs := [str [], .int .i64 (2 : Nat)]) (L' := [row 64 p (tabV q v), sl 40 3 v (l).length ((l).flatMap nearV)]) rfl ⟨rfl, rfl, rfl⟩ ⟨rfl, _, rfl⟩ (by (refine Ent.imp ?_; repeat first | exact Imp.refl _ | exact Imp.nil _ | (apply Imp.pull; focus ((repeat first | exact Del.head _ _ | apply Del.tail); done)) | (apply Imp.row; focus ((repeat first | exact Del.head _ _ | apply Del.tail); done)) | apply Imp.drop))
  · refine T.skip ?_
    refine TQ.bn ?_
    refine TQ.nn ?_
    refine T.seq ?_
    refine T.reg ?_
    have htl := tidy_len l now
    refine TO.p (DP.mv (by conv => lhs; whnf)) ?_
    refine TO.p (DP.mv (by conv => lhs; whnf)) ?_
    refine TO.n (N.callF (tidy_spec q l v p hlen now) Tryd.call34 ⟨rfl, rfl, trivial⟩ (by (repeat first | exact Pick.nil _ | (apply Pick.cons; focus ((repeat first | exact Del.head _ _ | apply Del.tail); done))))) ?_
    rintro u18 _ ⟨_, ⟨rfl, v2, rfl⟩, rfl⟩
    try simp only [List.cons_append, List.nil_append]
    refine TO.nil ?_
    refine TQ.nn ?_
    refine T.seq ?_
    refine T.reg ?_
    refine TO.p (DP.mv (by conv => lhs; whnf)) ?_
    refine TO.p (DP.mv (by conv => lhs; whnf)) ?_
    refine TO.n (N.callF (find_spec q (tidyE now l) v2 p (by omega) a (tidy_srt hs)) Tryd.call35 ⟨rfl, rfl, trivial⟩ (by (repeat first | exact Pick.nil _ | (apply Pick.cons; focus ((repeat first | exact Del.head _ _ | apply Del.tail); done))))) ?_
    rintro u22 _ ⟨_, ⟨rfl, rfl⟩, rfl⟩
    try simp only [List.cons_append, List.nil_append]
    refine TO.p (DP.mv (by conv => lhs; whnf)) ?_
    refine TO.p (DP.ex rfl rfl) ?_
    refine TO.p (DP.ex rfl rfl) ?_
    refine TO.p (DP.as (by conv => lhs; whnf)) ?_
    refine TO.p (DP.as (by conv => lhs; whnf)) ?_
    refine TO.nil ?_
    refine TQ.nn ?_
    refine T.seq ?_
    refine T.seq ?_
    refine T.reg ?_
    refine TO.p (DP.mv (by conv => lhs; whnf)) ?_
    refine TO.p (DP.not rfl) ?_
    refine TO.nil ?_
    refine TQ.nn ?_
    refine T.condB rfl (fun hc2 => ?_) (fun hc2 => ?_)
    · refine T.seq ?_
      refine T.reg ?_
      refine TO.p (DP.as (by conv => lhs; whnf)) ?_
      refine TO.p (DP.as (by conv => lhs; whnf)) ?_
      refine TO.nil ?_
      refine TQ.nn ?_
      refine T.ret ?_
      refine TQ.nr ?_
      rw [look_none hc1 (by simpa using hc2)]
      refine TQ.ret (vs := [str [], .int .i64 (5 : Nat)]) (L' := [row 64 p (tabV q v2), sl 40 3 v2 (tidyE now l).length ((tidyE now l).flatMap nearV)]) rfl ⟨rfl, rfl, rfl⟩ ⟨rfl, _, rfl⟩ (by (refine Ent.imp ?_; repeat first | exact Imp.refl _ | exact Imp.nil _ | (apply Imp.pull; focus ((repeat first | exact Del.head _ _ | apply Del.tail); done)) | (apply Imp.row; focus ((repeat first | exact Del.head _ _ | apply Del.tail); done)) | apply Imp.drop))
    · obtain ⟨sx, hsx, hsa⟩ := (has_pos (tidy_srt (now := now) hs)).1 (by simpa using hc2)
      have hpl : posE a (tidyE now l) < (tidyE now l).length := by rcases Nat.lt_or_ge (posE a (tidyE now l)) (tidyE now l).length with h5 | h5; exact h5; rw [List.getElem?_eq_none h5] at hsx; cases hsx
      refine T.skip ?_
      refine TQ.nn ?_
      refine T.seq ?_
      refine T.reg ?_
      refine TO.p (DP.mv (by conv => lhs; whnf)) ?_
      refine TO.p (DP.nck rfl) ?_
      refine TO.p (DP.fa 4 rfl Tryd.underlying64 rfl rfl sz32) ?_
      refine TO.d (D.ldR (v := v2) rfl pl32 (by (repeat first | exact LMem.head _ _ | apply LMem.tail)) rfl) ?_
      refine TO.p (DP.mv (by conv => lhs; whnf)) ?_
      refine TO.d (D.iasO rfl rfl Tryd.underlying32 sz40 (by (repeat first | exact LMem.head _ _ | apply LMem.tail)) hpl) ?_
      refine TO.d (D.faO 1 (by conv => lhs; whnf) Tryd.underlying40 rfl rfl sz9 (by (repeat first | exact LMem.head _ _ | apply LMem.tail)) hpl) ?_
      refine TO.d (D.ldOF (u := str sx.m) (by conv => lhs; whnf) pl9 (by (repeat first | exact LMem.head _ _ | apply LMem.tail)) (flat_elem nearV_len hsx 1 _ rfl) hpl) ?_
      refine TO.p (DP.as (by conv => lhs; whnf)) ?_
      refine TO.p (DP.as (by conv => lhs; whnf)) ?_
      refine TO.nil ?_
      refine TQ.nn ?_
      refine T.ret ?_
      rw [look_some hc1 hs (mem_of_get hsx) hsa]
      refine TQ.ret (vs := [str sx.m, .int .i64 (0 : Nat)]) (L' := [row 64 p (tabV q v2), sl 40 3 v2 (tidyE now l).length ((tidyE now l).flatMap nearV)]) rfl ⟨rfl, rfl, rfl⟩ ⟨rfl, _, rfl⟩ (by (refine Ent.imp ?_; repeat first | exact Imp.refl _ | exact Imp.nil _ | (apply Imp.pull; focus ((repeat first | exact Del.head _ _ | apply Del.tail); done)) | (apply Imp.row; focus ((repeat first | exact Del.head _ _ | apply Del.tail); done)) | apply Imp.drop))

theorem look_nil (a now : Nat) :
    Sat Tryd.prog 14 [.pointer none, .int .u32 a, .int .u64 now] [] (fun u L' => u = .tuple #[str [], .int .i64 (1 : Nat)] ∧ L' = []) := by
  refine Sat.enter Tryd.func14 rfl Tryd.ntmps14 rfl (fun c R => ?_)
  try simp only [List.cons_append, List.nil_append]
  refine T.seq ?_
  refine T.reg ?_
  refine TO.p (DP.as (by conv => lhs; whnf)) ?_
  refine TO.p (DP.as (by conv => lhs; whnf)) ?_
  refine TO.nil ?_
  refine TQ.nn ?_
  refine T.seq ?_
  refine T.block ?_
  refine T.seq ?_
  refine T.reg ?_
  refine TO.p (DP.mv (by conv => lhs; whnf)) ?_
  refine TO.p (DP.peq0 rfl rfl Tryd.underlying27) ?_
  refine TO.p (DP.as (by conv => lhs; whnf)) ?_
  refine TO.nil ?_
  refine TQ.nn ?_
  refine T.condT rfl ?_
  refine T.seq ?_
  refine T.reg ?_
  refine TO.p (DP.as (by conv => lhs; whnf)) ?_
  refine TO.p (DP.as (by conv => lhs; whnf)) ?_
  refine TO.nil ?_
  refine TQ.nn ?_
  refine T.ret ?_
  refine TQ.br ?_
  refine TQ.nr ?_
  refine TQ.ret (vs := [str [], .int .i64 (1 : Nat)]) (L' := []) rfl ⟨rfl, rfl, rfl⟩ ⟨rfl, rfl⟩ (by (refine Ent.imp ?_; repeat first | exact Imp.refl _ | exact Imp.nil _ | (apply Imp.pull; focus ((repeat first | exact Del.head _ _ | apply Del.tail); done)) | (apply Imp.row; focus ((repeat first | exact Del.head _ _ | apply Del.tail); done)) | apply Imp.drop))

theorem ask_spec (q : Tb) (l : List Nr) (v : Value) (p : Nat) (hlen : l.length ≤ 1048576) (a : Nat) :
    Sat Tryd.prog 32 [.pointer (some ⟨p, 0, none⟩), .int .u32 a] [row 64 p (tabV q v), sl 40 3 v (l).length ((l).flatMap nearV)] (fun u L' => u = .agg (arV ⟨1, q.mac, q.addr, List.replicate 6 0, a⟩).toArray ∧ L' = [row 64 p (tabV q v), sl 40 3 v (l).length ((l).flatMap nearV)]) := by
  refine Sat.enter Tryd.func32 rfl Tryd.ntmps32 rfl (fun c R => ?_)
  try simp only [List.cons_append, List.nil_append]
  refine T.seq ?_
  refine T.reg ?_
  refine TO.n (N.alA zr34) ?_
  rintro _ _ ⟨b4, rfl, rfl⟩
  refine TO.nil ?_
  refine TQ.nn ?_
  refine T.seq ?_
  refine T.seq ?_
  refine T.reg ?_
  refine TO.p (DP.mv (by conv => lhs; whnf)) ?_
  refine TO.p (DP.peqS rfl rfl Tryd.underlying27) ?_
  refine TO.nil ?_
  refine TQ.nn ?_
  refine T.condF rfl ?_
  refine T.skip ?_
  refine TQ.nn ?_
  refine T.seq ?_
  refine T.drawL [11] mixed (by repeat first | exact Calm.rt | apply Calm.t | apply Calm.b | apply Calm.l | apply Calm.ct) ?_
  refine TR.p 0 rfl (by kernel_rfl) (DP.mv (by conv => lhs; whnf)) ?_
  refine TR.p 1 rfl (by kernel_rfl) (DP.nck rfl) ?_
  refine TR.p 2 rfl (by kernel_rfl) (DP.fa 0 rfl Tryd.underlying64 rfl rfl sz9) ?_
  refine TR.d 3 rfl (by kernel_rfl) (by kernel_rfl) (by (refine Ent.imp ?_; repeat first | exact Imp.refl _ | exact Imp.nil _ | (apply Imp.pull; focus ((repeat first | exact Del.head _ _ | apply Del.tail); done)) | (apply Imp.row; focus ((repeat first | exact Del.head _ _ | apply Del.tail); done)) | apply Imp.drop)) (D.ldR (v := str q.mac) rfl pl9 (by (repeat first | exact LMem.head _ _ | apply LMem.tail)) rfl) ?_
  refine TR.p 4 rfl (by kernel_rfl) (DP.mv (by conv => lhs; whnf)) ?_
  refine TR.p 5 rfl (by kernel_rfl) (DP.nck rfl) ?_
  refine TR.p 6 rfl (by kernel_rfl) (DP.fa 1 rfl Tryd.underlying64 rfl rfl sz26) ?_
  refine TR.d 7 rfl (by kernel_rfl) (by kernel_rfl) (by (refine Ent.imp ?_; repeat first | exact Imp.refl _ | exact Imp.nil _ | (apply Imp.pull; focus ((repeat first | exact Del.head _ _ | apply Del.tail); done)) | (apply Imp.row; focus ((repeat first | exact Del.head _ _ | apply Del.tail); done)) | apply Imp.drop)) (D.ldR (v := .int .u32 q.addr) rfl pl26 (by (repeat first | exact LMem.head _ _ | apply LMem.tail)) rfl) ?_
  refine TR.p 9 rfl (by kernel_rfl) (DP.mv (by conv => lhs; whnf)) ?_
  refine TR.n 8 (by kernel_rfl) rfl (N.callF (repeat_spec 6 (by omega)) Tryd.call40 ⟨rfl, rfl, trivial⟩ (by (repeat first | exact Pick.nil _ | (apply Pick.cons; focus ((repeat first | exact Del.head _ _ | apply Del.tail); done))))) ?_
  rintro u16 _ ⟨_, ⟨rfl, rfl⟩, rfl⟩
  try simp only [List.cons_append, List.nil_append]
  refine ⟨.inr (by (refine Ent.imp ?_; repeat first | exact Imp.refl _ | exact Imp.nil _ | (apply Imp.pull; focus ((repeat first | exact Del.head _ _ | apply Del.tail); done)) | (apply Imp.row; focus ((repeat first | exact Del.head _ _ | apply Del.tail); done)) | apply Imp.drop)), ?_⟩
  refine TR.p 10 rfl (by kernel_rfl) (DP.bdL (vs := [(0, _), (1, _), (2, _), (3, _), (4, _)]) (us := arV ⟨1, q.mac, q.addr, List.replicate 6 0, a⟩) ⟨rfl, rfl, rfl, rfl, rfl, rfl, rfl, rfl, rfl, rfl, trivial⟩ pc34 zr34 rfl) ?_
  refine TR.n0 11 (by kernel_rfl) rfl (N.stA (vs := arV ⟨1, q.mac, q.addr, List.replicate 6 0, a⟩) rfl rfl sz34 (by (repeat first | exact Put.head _ _ _ | apply Put.tail)) (by simp [frV, arV, fr0, ar0]) (by simp [frV, arV, fr0, ar0, str, Value.oneCell']) (by rfl)) ?_
  rintro _ _ ⟨rfl, rfl⟩
  rw [show setAll _ 0 (arV ⟨1, q.mac, q.addr, List.replicate 6 0, a⟩) = arV ⟨1, q.mac, q.addr, List.replicate 6 0, a⟩ from rfl]
  refine ⟨.inl rfl, ?_⟩
  refine TR.done (by kernel_rfl) ?_
  refine TQ.nn ?_
  refine T.ret ?_
  refine TQ.ret (vs := [.agg (arV ⟨1, q.mac, q.addr, List.replicate 6 0, a⟩).toArray]) (L' := [row 64 p (tabV q v), sl 40 3 v (l).length ((l).flatMap nearV)]) rfl ⟨RV.atA rfl ag34 sz34 (by (repeat first | exact LMem.head _ _ | apply LMem.tail)) rfl, rfl⟩ ⟨rfl, rfl⟩ (by (refine Ent.imp ?_; repeat first | exact Imp.refl _ | exact Imp.nil _ | (apply Imp.pull; focus ((repeat first | exact Del.head _ _ | apply Del.tail); done)) | (apply Imp.row; focus ((repeat first | exact Del.head _ _ | apply Del.tail); done)) | apply Imp.drop))

theorem ask_nil (a : Nat) :
    Sat Tryd.prog 32 [.pointer none, .int .u32 a] [] (fun u L' => u = .agg (arV ar0).toArray ∧ L' = []) := by
  refine Sat.enter Tryd.func32 rfl Tryd.ntmps32 rfl (fun c R => ?_)
  try simp only [List.cons_append, List.nil_append]
  refine T.seq ?_
  refine T.reg ?_
  refine TO.n (N.alA zr34) ?_
  rintro _ _ ⟨b4, rfl, rfl⟩
  refine TO.nil ?_
  refine TQ.nn ?_
  refine T.seq ?_
  refine T.seq ?_
  refine T.reg ?_
  refine TO.p (DP.mv (by conv => lhs; whnf)) ?_
  refine TO.p (DP.peq0 rfl rfl Tryd.underlying27) ?_
  refine TO.nil ?_
  refine TQ.nn ?_
  refine T.condT rfl ?_
  refine T.seq ?_
  refine T.reg ?_
  refine TO.p (DP.bdL (vs := []) (us := arV ar0) trivial pc34 zr34 rfl) ?_
  refine TO.n0 (N.stA (vs := arV ar0) rfl rfl sz34 (by (repeat first | exact Put.head _ _ _ | apply Put.tail)) (by simp [frV, arV, fr0, ar0]) (by simp [frV, arV, fr0, ar0, str, Value.oneCell']) (by rfl)) ?_
  rintro _ _ ⟨rfl, rfl⟩
  rw [show setAll _ 0 (arV ar0) = arV ar0 from rfl]
  refine TO.nil ?_
  refine TQ.nn ?_
  refine T.ret ?_
  refine TQ.nr ?_
  refine TQ.ret (vs := [.agg (arV ar0).toArray]) (L' := []) rfl ⟨RV.atA rfl ag34 sz34 (by (repeat first | exact LMem.head _ _ | apply LMem.tail)) rfl, rfl⟩ ⟨rfl, rfl⟩ (by (refine Ent.imp ?_; repeat first | exact Imp.refl _ | exact Imp.nil _ | (apply Imp.pull; focus ((repeat first | exact Del.head _ _ | apply Del.tail); done)) | (apply Imp.row; focus ((repeat first | exact Del.head _ _ | apply Del.tail); done)) | apply Imp.drop))

theorem near_spec (q : Tb) (l : List Nr) (v : Value) (p : Nat) (hlen : l.length ≤ 1048576) (now : Nat) :
    Sat Tryd.prog 13 [.pointer (some ⟨p, 0, none⟩), .int .u64 now] [row 64 p (tabV q v), sl 40 3 v (l).length ((l).flatMap nearV)] (fun u L' => ∃ v2, L' = [row 64 p (tabV q v2), sl 40 3 v2 (nearE l now).length ((nearE l now).flatMap nearV), sl 40 3 u (nearE l now).length ((nearE l now).flatMap nearV)]) := by
  refine Sat.enter Tryd.func13 rfl Tryd.ntmps13 rfl (fun c R => ?_)
  try simp only [List.cons_append, List.nil_append]
  refine T.seq ?_
  refine T.reg ?_
  refine TO.p (DP.as (by conv => lhs; whnf)) ?_
  refine TO.nil ?_
  refine TQ.nn ?_
  refine T.seq ?_
  refine T.seq ?_
  refine T.reg ?_
  refine TO.p (DP.mv (by conv => lhs; whnf)) ?_
  refine TO.p (DP.peqS rfl rfl Tryd.underlying27) ?_
  refine TO.nil ?_
  refine TQ.nn ?_
  refine T.condF rfl ?_
  refine T.skip ?_
  refine TQ.nn ?_
  refine T.seq ?_
  refine T.seq ?_
  refine T.reg ?_
  refine TO.p (DP.mv (by conv => lhs; whnf)) ?_
  refine TO.p ((by first | exact DP.lss (b := 4611686018427387904) rfl rfl | exact DP.lssI rfl rfl)) ?_
  refine TO.nil ?_
  refine TQ.nn ?_
  refine T.condD rfl (fun hc1 => ?_) (fun hc1 => ?_)
  · refine T.reg ?_
    have htl := tidy_len l now
    refine TO.p (DP.mv (by conv => lhs; whnf)) ?_
    refine TO.p (DP.mv (by conv => lhs; whnf)) ?_
    refine TO.n (N.callF (tidy_spec q l v p hlen now) Tryd.call34 ⟨rfl, rfl, trivial⟩ (by (repeat first | exact Pick.nil _ | (apply Pick.cons; focus ((repeat first | exact Del.head _ _ | apply Del.tail); done))))) ?_
    rintro u11 _ ⟨_, ⟨rfl, v2, rfl⟩, rfl⟩
    try simp only [List.cons_append, List.nil_append]
    refine TO.nil ?_
    refine TQ.nn ?_
    refine T.seq ?_
    refine T.reg ?_
    refine TO.p (DP.mv (by conv => lhs; whnf)) ?_
    refine TO.p (DP.nck rfl) ?_
    refine TO.p (DP.fa 4 rfl Tryd.underlying64 rfl rfl sz32) ?_
    refine TO.d (D.ldR (v := v2) rfl pl32 (by (repeat first | exact LMem.head _ _ | apply LMem.tail)) rfl) ?_
    refine TO.n (N.callF (nr_clone_spec (tidyE now l).length v2 ((tidyE now l).flatMap nearV) (fun u hu => by obtain ⟨y, _, hy⟩ := List.mem_flatMap.1 hu; exact nearV_one y u hy) (by omega)) Tryd.call37 ⟨rfl, trivial⟩ (by (repeat first | exact Pick.nil _ | (apply Pick.cons; focus ((repeat first | exact Del.head _ _ | apply Del.tail); done))))) ?_
    rintro u16 _ ⟨_, rfl, rfl⟩
    try simp only [List.cons_append, List.nil_append]
    refine TO.p (DP.as (by conv => lhs; whnf)) ?_
    refine TO.nil ?_
    refine TQ.nn ?_
    refine T.ret ?_
    rw [show nearE l now = tidyE now l from if_pos hc1]
    refine TQ.ret (vs := [u16]) (L' := [row 64 p (tabV q v2), sl 40 3 v2 (tidyE now l).length ((tidyE now l).flatMap nearV), sl 40 3 u16 (tidyE now l).length ((tidyE now l).flatMap nearV)]) rfl ⟨rfl, rfl⟩ ⟨_, rfl⟩ (by (refine Ent.imp ?_; repeat first | exact Imp.refl _ | exact Imp.nil _ | (apply Imp.pull; focus ((repeat first | exact Del.head _ _ | apply Del.tail); done)) | (apply Imp.row; focus ((repeat first | exact Del.head _ _ | apply Del.tail); done)) | apply Imp.drop))
  · refine T.skip ?_
    refine TQ.nn ?_
    refine T.seq ?_
    refine T.reg ?_
    refine TO.p (DP.mv (by conv => lhs; whnf)) ?_
    refine TO.p (DP.nck rfl) ?_
    refine TO.p (DP.fa 4 rfl Tryd.underlying64 rfl rfl sz32) ?_
    refine TO.d (D.ldR (v := v) rfl pl32 (by (repeat first | exact LMem.head _ _ | apply LMem.tail)) rfl) ?_
    refine TO.n (N.callF (nr_clone_spec l.length v (l.flatMap nearV) (fun u hu => by obtain ⟨y, _, hy⟩ := List.mem_flatMap.1 hu; exact nearV_one y u hy) (by omega)) Tryd.call37 ⟨rfl, trivial⟩ (by (repeat first | exact Pick.nil _ | (apply Pick.cons; focus ((repeat first | exact Del.head _ _ | apply Del.tail); done))))) ?_
    rintro u16 _ ⟨_, rfl, rfl⟩
    try simp only [List.cons_append, List.nil_append]
    refine TO.p (DP.as (by conv => lhs; whnf)) ?_
    refine TO.nil ?_
    refine TQ.nn ?_
    refine T.ret ?_
    rw [show nearE l now = l from if_neg hc1]
    refine TQ.ret (vs := [u16]) (L' := [row 64 p (tabV q v), sl 40 3 v (l).length ((l).flatMap nearV), sl 40 3 u16 (l).length ((l).flatMap nearV)]) rfl ⟨rfl, rfl⟩ ⟨_, rfl⟩ (by (refine Ent.imp ?_; repeat first | exact Imp.refl _ | exact Imp.nil _ | (apply Imp.pull; focus ((repeat first | exact Del.head _ _ | apply Del.tail); done)) | (apply Imp.row; focus ((repeat first | exact Del.head _ _ | apply Del.tail); done)) | apply Imp.drop))

theorem near_nil (now : Nat) :
    Sat Tryd.prog 13 [.pointer none, .int .u64 now] [] (fun u L' => u = .slice none 0 0 ∧ L' = []) := by
  refine Sat.enter Tryd.func13 rfl Tryd.ntmps13 rfl (fun c R => ?_)
  try simp only [List.cons_append, List.nil_append]
  refine T.seq ?_
  refine T.reg ?_
  refine TO.p (DP.as (by conv => lhs; whnf)) ?_
  refine TO.nil ?_
  refine TQ.nn ?_
  refine T.seq ?_
  refine T.seq ?_
  refine T.reg ?_
  refine TO.p (DP.mv (by conv => lhs; whnf)) ?_
  refine TO.p (DP.peq0 rfl rfl Tryd.underlying27) ?_
  refine TO.nil ?_
  refine TQ.nn ?_
  refine T.condT rfl ?_
  refine T.seq ?_
  refine T.reg ?_
  refine TO.p (DP.as (by conv => lhs; whnf)) ?_
  refine TO.nil ?_
  refine TQ.nn ?_
  refine T.ret ?_
  refine TQ.nr ?_
  refine TQ.ret (vs := [.slice none 0 0]) (L' := []) rfl ⟨rfl, rfl⟩ ⟨rfl, rfl⟩ (by (refine Ent.imp ?_; repeat first | exact Imp.refl _ | exact Imp.nil _ | (apply Imp.pull; focus ((repeat first | exact Del.head _ _ | apply Del.tail); done)) | (apply Imp.row; focus ((repeat first | exact Del.head _ _ | apply Del.tail); done)) | apply Imp.drop))
end Go.Proofs.YtbandaebilkkkaaDoor
