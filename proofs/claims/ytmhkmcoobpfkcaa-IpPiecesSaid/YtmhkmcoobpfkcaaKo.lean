/- Lemmas for the proofs of this seat: no statement of the seat is claimed here. -/
import Derived.Test.YtmhkmcoobpfkcaaKn
import Derived.Test.YtmhkmcoobpfkcaaKc
set_option linter.all false

namespace Go.Proofs.Ytmhkmcoobpfkcaa
open Go Pw
set_option maxRecDepth 20000
set_option maxHeartbeats 4000000
set_option synthInstance.maxHeartbeats 400000
set_option synthInstance.maxSize 4000
set_option maxHeartbeats 4000000

theorem Imp.pc0 {r most life m : Nat} {L R : List Assn} (h : Imp L (row 65 r [.int .i64 most, .int .u64 life, .map (some m)] :: mapG keyV pv m [] :: R)) : Imp L (pcA r most life [] :: R) :=
  Imp.pc (X := []) (l := []) rfl rfl (h.trans (Imp.pull (.head _ _) (Imp.pull (.head _ _) famA_nil)))
theorem ss0 : SsOk [] := ⟨List.nodup_nil, fun _ h => (List.not_mem_nil h).elim⟩
theorem new_ok (most life : Nat) (h1 : 1 ≤ most) (h2 : most ≤ 32) (h3 : 1 ≤ life) (h4 : life ≤ 4294967296) :
    Sat Try.prog 12 [.int .i64 most, .int .u64 life] [] (fun u L' => ∃ r, u = asResult [.pointer (some ⟨r, 0, none⟩), .int .i64 (0 : Nat)] ∧ L' = [pcA r most life []]) := by
  all_goals
    refine Sat.enter Try.func12 rfl Try.ntmps12 rfl (fun c R => ?_)
    try simp only [List.cons_append, List.nil_append]
    repeat' (first
      | (exact Fini.of ⟨_, rfl, rfl⟩ (Imp.pc0 (by repeat first | exact Imp.refl _ | (apply Imp.pull; focus ((repeat first | exact Del.head _ _ | apply Del.tail); done)) | apply Imp.drop)))
      | refine And.intro (fun hc => ?_) (fun hc => ?_)
      | refine And.intro ?_ ?_
      | intro b
      | refine stp ?_
      | refine TQ.finC ?_
      | refine TQ.finC2 ?_
      | refine TQ.finC3 ?_
      | refine ⟨fun hc => ?_, fun hc => ?_⟩
      | refine Ei.f ?_
      | refine ⟨?_, ?_⟩
      | intro b
      | exact absurd rfl hc
      | exact absurd hc (by decide)
      | exact absurd rfl hc
      | exact absurd hc (by decide)
      | exact absurd rfl hc
      | exact absurd hc (by decide)
      | omega
      | (dsimp only; omega)
      | fail)
theorem new_bad (most : Int) (life : Nat) (h : most < 1 ∨ 32 < most ∨ life < 1 ∨ 4294967296 < life) (hb : -9223372036854775808 ≤ most) (hb2 : most < 9223372036854775808) (hl : life < 18446744073709551616) :
    Sat Try.prog 12 [.int .i64 most, .int .u64 life] [] (fun u L' => u = asResult [.pointer none, .int .i64 (2 : Nat)] ∧ L' = []) := by
  all_goals
    refine Sat.enter Try.func12 rfl Try.ntmps12 rfl (fun c R => ?_)
    try simp only [List.cons_append, List.nil_append]
    repeat' (first
      | (exact Fini.of ⟨rfl, rfl⟩ (by repeat first | exact Imp.refl _ | (apply Imp.pull; focus ((repeat first | exact Del.head _ _ | apply Del.tail); done)) | apply Imp.drop))
      | refine And.intro (fun hc => ?_) (fun hc => ?_)
      | refine And.intro ?_ ?_
      | intro b
      | refine stp ?_
      | refine TQ.finC ?_
      | refine TQ.finC2 ?_
      | refine TQ.finC3 ?_
      | refine ⟨fun hc => ?_, fun hc => ?_⟩
      | refine Ei.f ?_
      | refine ⟨?_, ?_⟩
      | intro b
      | exact absurd rfl hc
      | exact absurd hc (by decide)
      | exact absurd rfl hc
      | exact absurd hc (by decide)
      | exact absurd rfl hc
      | exact absurd hc (by decide)
      | omega
      | (dsimp only; omega)
      | fail)
theorem may13 (most : Int) (life : Nat) (hb : -9223372036854775808 ≤ most) (hb2 : most < 9223372036854775808) (hl : life < 18446744073709551616) :
    Sat Try.prog 13 [.int .i64 most, .int .u64 life] [] (fun u L' => u = .bool (decide (1 ≤ most ∧ most ≤ 32 ∧ 1 ≤ life ∧ life ≤ 4294967296)) ∧ L' = []) := by
  all_goals
    refine Sat.enter Try.func13 rfl Try.ntmps13 rfl (fun c R => ?_)
    try simp only [List.cons_append, List.nil_append]
    repeat' (first
      | (exact Fini.of ⟨eqB (by first | (simp only [eq_comm, decide_eq_true_eq, Bool.and_eq_true, true_eq_decide_iff, false_eq_decide_iff]; omega) | (symm; simp only [decide_eq_true_eq, decide_eq_false_iff_not]; omega) | (rw [decide_eq_decide]; omega)), rfl⟩ (by repeat first | exact Imp.refl _ | (apply Imp.pull; focus ((repeat first | exact Del.head _ _ | apply Del.tail); done)) | apply Imp.drop))
      | refine And.intro (fun hc => ?_) (fun hc => ?_)
      | refine And.intro ?_ ?_
      | intro b
      | refine stp ?_
      | refine TQ.finC ?_
      | refine TQ.finC2 ?_
      | refine TQ.finC3 ?_
      | refine ⟨fun hc => ?_, fun hc => ?_⟩
      | refine Ei.f ?_
      | refine ⟨?_, ?_⟩
      | intro b
      | exact absurd rfl hc
      | exact absurd hc (by decide)
      | exact absurd rfl hc
      | exact absurd hc (by decide)
      | exact absurd rfl hc
      | exact absurd hc (by decide)
      | omega
      | (dsimp only; omega)
      | fail)
theorem waits_none  :
    Sat Try.prog 16 [.pointer none] [] (fun u L' => u = .int .i64 0 ∧ L' = []) := by
  all_goals
    refine Sat.enter Try.func16 rfl Try.ntmps16 rfl (fun c R => ?_)
    try simp only [List.cons_append, List.nil_append]
    repeat' (first
      | (exact Fini.of ⟨rfl, rfl⟩ (by repeat first | exact Imp.refl _ | (apply Imp.pull; focus ((repeat first | exact Del.head _ _ | apply Del.tail); done)) | apply Imp.drop))
      | refine And.intro (fun hc => ?_) (fun hc => ?_)
      | refine And.intro ?_ ?_
      | intro b
      | refine stp ?_
      | refine TQ.finC ?_
      | refine TQ.finC2 ?_
      | refine TQ.finC3 ?_
      | refine ⟨fun hc => ?_, fun hc => ?_⟩
      | refine Ei.f ?_
      | refine ⟨?_, ?_⟩
      | intro b
      | exact absurd rfl hc
      | exact absurd hc (by decide)
      | exact absurd rfl hc
      | exact absurd hc (by decide)
      | exact absurd rfl hc
      | exact absurd hc (by decide)
      | omega
      | (dsimp only; omega)
      | fail)
theorem waits16 (r most life : Nat) (S : List PSet) :
    Sat Try.prog 16 [.pointer (some ⟨r, 0, none⟩)] [pcA r most life S] (fun u L' => u = .int .i64 (S.length : Nat) ∧ L' = [pcA r most life S]) := by
  refine Sat.openA1 ?_
  rintro ⟨m, X⟩ hX
  dsimp only [pcL] at *
  subst hX
  all_goals
    refine Sat.enter Try.func16 rfl Try.ntmps16 rfl (fun c R => ?_)
    try simp only [List.cons_append, List.nil_append]
    repeat' (first
      | (exact Fini.of ⟨by rw [List.length_map]; simp [asResult], rfl⟩ (Imp.pc rfl rfl (by repeat first | exact Imp.refl _ | (apply Imp.pull; focus ((repeat first | exact Del.head _ _ | apply Del.tail); done)) | apply Imp.drop)))
      | refine And.intro (fun hc => ?_) (fun hc => ?_)
      | refine And.intro ?_ ?_
      | intro b
      | refine stp ?_
      | refine TQ.finC ?_
      | refine TQ.finC2 ?_
      | refine TQ.finC3 ?_
      | refine ⟨fun hc => ?_, fun hc => ?_⟩
      | refine Ei.f ?_
      | refine ⟨?_, ?_⟩
      | intro b
      | exact absurd rfl hc
      | exact absurd hc (by decide)
      | exact absurd rfl hc
      | exact absurd hc (by decide)
      | exact absurd rfl hc
      | exact absurd hc (by decide)
      | omega
      | (dsimp only; omega)
      | fail)
theorem take_none (p : Pkt) (now : Nat) :
    Sat Try.prog 14 [.pointer none, .agg (pktV p).toArray, .int .u64 now] [] (fun u L' => u = asResult [.agg (pktV zP).toArray, .bool false, .int .i64 (1 : Nat)] ∧ L' = []) := by
  all_goals
    refine Sat.enter Try.func14 rfl Try.ntmps14 rfl (fun c R => ?_)
    try simp only [List.cons_append, List.nil_append]
    repeat' (first
      | (exact Fini.of ⟨rfl, rfl⟩ (by repeat first | exact Imp.refl _ | (apply Imp.pull; focus ((repeat first | exact Del.head _ _ | apply Del.tail); done)) | apply Imp.drop))
      | refine T.pl 9 [5] (.p 0 (.p 1 (.d 2 (.d 3 (.d 4 (.n 5 .fin)))))) ?_
      | refine T.pl 15 [5] (.p 0 (.p 1 (.d 2 (.d 3 (.d 4 (.n 5 .fin)))))) ?_
      | refine T.pl 17 [] (.p 0 (.p 1 (.d 2 (.d 3 (.d 4 (.d 5 (.p 6 .fin))))))) ?_
      | refine T.pl 19 [] (.p 0 (.p 1 (.p 5 (.p 6 (.d 2 (.d 3 (.d 4 (.d 7 (.d 8 (.p 9 .fin)))))))))) ?_
      | refine T.pl 22 [6] (.p 0 (.p 1 (.p 5 (.d 2 (.d 3 (.d 4 (.n 6 .fin))))))) ?_
      | refine T.pl 25 [5] (.p 0 (.p 1 (.d 2 (.d 3 (.d 4 (.n 5 .fin)))))) ?_
      | refine T.pl 29 [5] (.p 0 (.p 1 (.d 2 (.d 3 (.d 4 (.n 5 .fin)))))) ?_
      | refine And.intro (fun hc => ?_) (fun hc => ?_)
      | refine And.intro ?_ ?_
      | intro b
      | refine stp ?_
      | refine TQ.finC ?_
      | refine TQ.finC2 ?_
      | refine TQ.finC3 ?_
      | refine ⟨fun hc => ?_, fun hc => ?_⟩
      | refine Ei.f ?_
      | refine ⟨?_, ?_⟩
      | intro b
      | exact absurd rfl hc
      | exact absurd hc (by decide)
      | exact absurd rfl hc
      | exact absurd hc (by decide)
      | exact absurd rfl hc
      | exact absurd hc (by decide)
      | omega
      | (dsimp only; omega)
      | fail)
instance {L : List Assn} {x y : Int} {most life : Nat} [hx : Nn x most] [hy : Nn y life] : FnR Try.prog 12 [.int .i64 x, .int .u64 y] L (fun kk => Vc (1 ≤ most ∧ most ≤ 32 ∧ 1 ≤ life ∧ life ≤ 4294967296) (∀ r, kk (asResult [.pointer (some ⟨r, 0, none⟩), .int .i64 (0 : Nat)]) (pcA r most life [] :: L))) :=
  ⟨fun kk h => ⟨[], L, _, by rw [hx.h, hy.h]; exact new_ok most life h.l.1 h.l.2.1 h.l.2.2.1 h.l.2.2.2, .nil _, fun v L' hv => by obtain ⟨r, e1, e2⟩ := hv; rw [e1, e2]; exact h.r r⟩⟩
instance {L R : List Assn} {r most life : Nat} {S : List PSet} [hd : PcAt L r most life S R] : FnR Try.prog 16 [.pointer (some ⟨r, 0, none⟩)] L (fun kk => kk (.int .i64 (S.length : Nat)) (pcA r most life S :: R)) :=
  ⟨fun kk h => ⟨_, R, _, waits16 r most life S, .cons hd.h (.nil _), fun v L' hv => by rw [hv.1, hv.2]; exact h⟩⟩
instance {L : List Assn}  : FnR Try.prog 16 [.pointer none] L (fun kk => Vc (True) (kk (.int .i64 0) L)) := ⟨fun kk h => ⟨[], L, _, waits_none, .nil _, fun v L' hq => by rw [hq.1, hq.2]; exact h.r⟩⟩
instance {L : List Assn} {p : Pkt} {us : List Value} {x : Int} {now : Nat} [hu : InvL pktV us p] [hx : Nn x now] : FnR Try.prog 14 [.pointer none, .agg us.toArray, .int .u64 x] L (fun kk => kk (asResult [.agg (pktV zP).toArray, .bool false, .int .i64 (1 : Nat)]) L) := ⟨fun kk h => ⟨[], L, _, by rw [← hu.h, hx.h]; exact take_none p now, .nil _, fun v L' hq => by rw [hq.1, hq.2]; exact h⟩⟩

end Go.Proofs.Ytmhkmcoobpfkcaa


namespace Go.Proofs.Ytmhkmcoobpfkcaa
open Go Pw
set_option maxRecDepth 20000
set_option maxHeartbeats 4000000
set_option synthInstance.maxHeartbeats 400000
set_option synthInstance.maxSize 4000
set_option maxHeartbeats 4000000

theorem pkt_ext {a b : Pkt} (h : a.src = b.src ∧ a.dst = b.dst ∧ a.proto = b.proto ∧ a.ttl = b.ttl ∧ a.id = b.id ∧ a.stay = b.stay ∧ a.more = b.more ∧ a.off = b.off ∧ a.data = b.data) : a = b := by
  obtain ⟨a1, a2, a3, a4, a5, a6, a7, a8, a9⟩ := a
  obtain ⟨b1, b2, b3, b4, b5, b6, b7, b8, b9⟩ := b
  obtain ⟨h1, h2, h3, h4, h5, h6, h7, h8, h9⟩ := h
  dsimp only at *
  subst h1; subst h2; subst h3; subst h4; subst h5; subst h6; subst h7; subst h8; subst h9
  rfl
instance : DecidableEq Pkt := fun a b => decidable_of_iff (a.src = b.src ∧ a.dst = b.dst ∧ a.proto = b.proto ∧ a.ttl = b.ttl ∧ a.id = b.id ∧ a.stay = b.stay ∧ a.more = b.more ∧ a.off = b.off ∧ a.data = b.data) ⟨pkt_ext, fun h => by subst h; exact ⟨rfl, rfl, rfl, rfl, rfl, rfl, rfl, rfl, rfl⟩⟩
theorem sih38 : Try.prog.stoodInHeld 38 = false := by kernel_rfl
theorem eg38 : Try.prog.eqGuardType Try.prog.depth 38 = false := by kernel_rfl
theorem pl4 : plainT Try.prog 4 = true := by kernel_rfl
theorem pl9 : plainT Try.prog 9 = true := by kernel_rfl
theorem sz4 : Try.prog.cellsOf 4 = 0 + 1 := by kernel_rfl
theorem sz9 : Try.prog.cellsOf 9 = 0 + 1 := by kernel_rfl
theorem run_eqBo {t : TypeId} (n : Nat) (a b : Bool) (ht : Try.prog.underlying t = some .bool) (w : World) : (Op.equalIn (n + 1) t (.bool a) (.bool b)).run Try.prog w = .ok (decide (a = b)) w := by
  rw [Op.equalIn]
  simp [run_underlying ht]
  cases a <;> cases b <;> rfl
theorem eqPkt (a b : Pkt) (w : World) : (Op.equalIn (9998 + 1 + 1) 38 (.agg (pktV a).toArray) (.agg (pktV b).toArray)).run Try.prog w = .ok (decide (a = b)) w := by
  refine (eqSt (n := 9998 + 1) Try.underlying38 sih38 (.cons (by decide) rfl rfl pl35 sz35 (fun w => run_eqI _ _ _ Try.underlying35 w) (.cons (by decide) rfl rfl pl35 sz35 (fun w => run_eqI _ _ _ Try.underlying35 w) (.cons (by decide) rfl rfl pl5 sz5 (fun w => run_eqI _ _ _ Try.underlying5 w) (.cons (by decide) rfl rfl pl5 sz5 (fun w => run_eqI _ _ _ Try.underlying5 w) (.cons (by decide) rfl rfl pl36 sz36 (fun w => run_eqI _ _ _ Try.underlying36 w) (.cons (by decide) rfl rfl pl4 sz4 (fun w => run_eqBo _ _ _ Try.underlying4 w) (.cons (by decide) rfl rfl pl4 sz4 (fun w => run_eqBo _ _ _ Try.underlying4 w) (.cons (by decide) rfl rfl pl36 sz36 (fun w => run_eqI _ _ _ Try.underlying36 w) (.cons (by decide) rfl rfl pl9 sz9 (fun w => run_eqStr _ _ _ Try.underlying9 w) .nil))))))))) w).trans ?_
  congr 1
  rw [Bool.eq_iff_iff]
  simp only [List.all_cons, List.all_nil, id, Bool.and_eq_true, decide_eq_true_eq, and_true]
  constructor
  · rintro ⟨h1, h2, h3, h4, h5, h6, h7, h8, h9⟩
    exact pkt_ext ⟨by omega, by omega, by omega, by omega, by omega, h6, h7, by omega, h9⟩
  · rintro rfl
    exact ⟨rfl, rfl, rfl, rfl, rfl, rfl, rfl, rfl, rfl⟩
instance (priority := 1100) {us vs : List Value} {a b : Pkt} [hu : InvL pktV us a] [hv : InvL pktV vs b] : Pu Try.prog (.bin .eql 38 (.agg us.toArray) (.agg vs.toArray)) (fun k => k (.bool (decide (a = b)))) := ⟨fun E d op ty pos af g hr k hk => by
  cases hr with | bin e1 e2 => rw [← hu.h] at e1; rw [← hv.h] at e2; exact ⟨_, DP.eqOf e1 e2 eg38 (eqPkt a b), hk⟩⟩
instance (priority := 1100) {us vs : List Value} {a b : Pkt} [hu : InvL pktV us a] [hv : InvL pktV vs b] : Pu Try.prog (.bin .neq 38 (.agg us.toArray) (.agg vs.toArray)) (fun k => k (.bool (decide (a ≠ b)))) := ⟨fun E d op ty pos af g hr k hk => by
  cases hr with | bin e1 e2 => rw [← hu.h] at e1; rw [← hv.h] at e2; exact ⟨_, DP.to (DP.neOf e1 e2 eg38 (eqPkt a b)) (by simp), hk⟩⟩
instance (priority := 900) {x1 x2 x3 x4 x5 x8 : Int} {a b c d e h : Nat} {f g : Bool} {s : List UInt8} [h1 : Nn x1 a] [h2 : Nn x2 b] [h3 : Nn x3 c] [h4 : Nn x4 d] [h5 : Nn x5 e] [h8 : Nn x8 h] : InvL pktV [.int .u32 x1, .int .u32 x2, .int .u8 x3, .int .u8 x4, .int .u16 x5, .bool f, .bool g, .int .u16 x8, .string ⟨s.toArray⟩] ⟨a, b, c, d, e, f, g, h, s⟩ := ⟨by rw [h1.h, h2.h, h3.h, h4.h, h5.h, h8.h]⟩
/-! Take keeps what a set is. -/
theorem SsOk.filter {S : List PSet} (h : SsOk S) (q : PSet → Bool) : SsOk (S.filter q) := ⟨h.nd.sublist (List.filter_sublist.map _), fun x hx => h.all x (List.mem_filter.1 hx).1⟩
theorem addE_til (x : PSet) (p : Pkt) : (addE x p).1.til = x.til := by
  unfold addE; split
  · rfl
  · split <;> rfl
theorem hand_of {S : List PSet} {x : PSet} (h : x.ok) : HandOk x := ⟨h.all, h.dt, h.en, h.srt⟩
theorem gt0_mem {l : List Pkt} (h : 0 < l.length) : gt l 0 ∈ l := gt_memP h
theorem add_ky {x : PSet} {p : Pkt} (h : ∀ q ∈ x.l, keyE q = keyE p) (ha : ¬ (addE x p).2 ≠ 0) : ∀ q ∈ (addE x p).1.l, keyE q = keyE p := by
  unfold addE at *
  split
  · exact h
  · split
    · exact h
    · intro q hq
      rcases List.mem_cons.1 ((insE_perm p x.l).mem_iff.1 hq) with rfl | hq
      · rfl
      · exact h q hq
theorem addE_ok {x : PSet} {p : Pkt} (hh : HandOk x) (hk : ∀ q ∈ x.l, keyE q = keyE p) (ht : x.til < 9223372036854775808) (hp : p.ok) (hm : mayE p = 0) (ha : ¬ (addE x p).2 ≠ 0) (hw : wholeE (addE x p).1.l = none) : (addE x p).1.ok ∧ (addE x p).1.key = keyE p := by
  have h1 := add_hand hh hp hm
  have h2 := add_ne ha
  have h3 := add_ky hk ha
  have h4 : (addE x p).1.key = keyE p := h3 _ (gt0_mem h2)
  exact ⟨⟨h2, h1.all, h1.dt, h1.en, h1.srt, by rw [addE_til]; exact ht, fun q hq => by rw [h4]; exact h3 q hq, hw⟩, h4⟩
theorem find_mem {S : List PSet} {k : Ky} {x : PSet} (h : findS S k = some x) : x ∈ S ∧ x.key = k := ⟨List.mem_of_find?_eq_some h, by simpa using List.find?_some h⟩
theorem put_ok {S : List PSet} {k : Ky} {y : PSet} (hS : SsOk S) (hy : y.ok) (hk : y.key = k) : SsOk (putS S k y) := by
  unfold putS
  cases h : findS S k with
  | some x =>
    refine ⟨?_, ?_⟩
    · have : (S.map fun x => if x.key = k then y else x).map PSet.key = S.map PSet.key := by
        rw [List.map_map]
        refine List.map_congr_left fun x hx => ?_
        by_cases hx : x.key = k
        · simp [hx, hk]
        · simp [hx]
      rw [this]; exact hS.nd
    · intro x hx
      obtain ⟨z, hz, rfl⟩ := List.mem_map.1 hx
      split
      · exact hy
      · exact hS.all z hz
  | none =>
    have hno : ∀ x ∈ S, x.key ≠ k := by
      unfold findS at h
      rw [List.find?_eq_none] at h
      intro x hx; simpa using h x hx
    refine ⟨?_, ?_⟩
    · rw [List.map_append, List.nodup_append]
      refine ⟨hS.nd, by simp, ?_⟩
      intro a ha b hb
      simp at hb; subst hb
      obtain ⟨x, hx, rfl⟩ := List.mem_map.1 ha
      rw [hk]; exact hno x hx
    · intro x hx
      rcases List.mem_append.1 hx with h1 | h1
      · exact hS.all x h1
      · simp at h1; subst h1; exact hy
theorem put_len {S : List PSet} {k : Ky} {y : PSet} : (putS S k y).length = S.length + (if (findS S k).isSome then 0 else 1) := by
  unfold putS
  cases findS S k <;> simp
theorem fin_ok {S : List PSet} {x : PSet} {p : Pkt} (hS : SsOk S) (hh : HandOk x) (hk : ∀ q ∈ x.l, keyE q = keyE p) (ht : x.til < 9223372036854775808) (hp : p.ok) (hm : mayE p = 0) : SsOk (finS S (keyE p) x p).1 := by
  by_cases h : (addE x p).2 ≠ 0
  · rw [fin_err h]; exact hS.filter _
  · cases hw : wholeE (addE x p).1.l with
    | some w => rw [fin_yes h hw]; exact hS.filter _
    | none =>
      rw [fin_no h hw]
      have := addE_ok hh hk ht hp hm h hw
      exact put_ok hS this.1 this.2
theorem hand0 (t : Nat) : HandOk ⟨[], t⟩ := ⟨fun _ h => (List.not_mem_nil h).elim, fun _ h => (List.not_mem_nil h).elim, fun _ h => (List.not_mem_nil h).elim, List.Pairwise.nil⟩
theorem ss_take {most life now : Nat} {S : List PSet} {p : Pkt} (hS : SsOk S) (hp : p.ok) (hl : life ≤ 4294967296) : SsOk (takeE most life S p now).1 := by
  unfold takeE
  split
  · exact hS
  · rename_i h0
    have hE := hS.exp (now := now)
    split
    · exact hE
    · split
      · exact hE.filter _
      · rename_i h1 h2
        have hm : mayE p = 0 := Decidable.not_not.1 h2
        cases hf : findS (expE S now) (keyE p) with
        | some x =>
          have hx := find_mem hf
          have hxo := hE.all x hx.1
          exact fin_ok hE (hand_of (S := S) hxo) (fun q hq => (hxo.ky q hq).trans hx.2) hxo.til hp hm
        | none =>
          dsimp only
          split
          · exact hE
          · exact fin_ok hE (hand0 _) (fun _ h => (List.not_mem_nil h).elim) (by dsimp only; omega) hp hm
theorem fin_len {S : List PSet} {k : Ky} {x : PSet} {p : Pkt} : (finS S k x p).1.length ≤ S.length + (if (findS S k).isSome then 0 else 1) := by
  unfold finS
  split
  · exact Nat.le_trans (List.length_filter_le _ _) (Nat.le_add_right _ _)
  · split
    · exact Nat.le_trans (List.length_filter_le _ _) (Nat.le_add_right _ _)
    · rw [put_len]; exact Nat.le_refl _
theorem take_len {most life now : Nat} {S : List PSet} {p : Pkt} : (takeE most life S p now).1.length ≤ max S.length most ∧ (takeE most life S p now).1.length ≤ S.length + 1 := by
  have hE : (expE S now).length ≤ S.length := List.length_filter_le _ _
  have hD : (delS (expE S now) (keyE p)).length ≤ (expE S now).length := List.length_filter_le _ _
  unfold takeE
  split
  · dsimp only; omega
  · split
    · dsimp only; omega
    · split
      · dsimp only; omega
      · cases hf : findS (expE S now) (keyE p) with
        | some x => have := fin_len (S := expE S now) (k := keyE p) (x := x) (p := p); rw [hf] at this; simp at this; dsimp only; omega
        | none =>
          dsimp only
          split
          · dsimp only; omega
          · have := fin_len (S := expE S now) (k := keyE p) (x := ⟨[], now + life⟩) (p := p); rw [hf] at this; simp at this; omega
/-! What is told. -/
theorem sum_data {l : List Pkt} (h : ∀ q ∈ l, q.data.length ≤ 8192) : (l.flatMap (·.data)).length ≤ 8192 * l.length := by
  induction l with
  | nil => exact Nat.le_refl _
  | cons q l ih =>
    have := h q (List.mem_cons_self ..)
    have := ih (fun y hy => h y (List.mem_cons_of_mem _ hy))
    rw [List.flatMap_cons, List.length_append, List.length_cons]; omega
theorem whole_ok {x : PSet} {w : Pkt} (h : HandOk x) (h0 : 0 < x.l.length) (hw : wholeE x.l = some w) : w.ok ∧ w.more = false ∧ w.off = 0 := by
  unfold wholeE at hw
  split at hw
  · cases hw
    have h1 := h.all _ (gt0_mem h0)
    have h2 := h.sum
    exact ⟨⟨h1.src, h1.dst, h1.proto, h1.ttl, h1.id, by dsimp only; omega, by dsimp only; omega⟩, rfl, rfl⟩
  · cases hw
theorem z_ok : zP.ok := ⟨by decide, by decide, by decide, by decide, by decide, by decide, by decide⟩
theorem fin_res {S : List PSet} {k : Ky} {x : PSet} {p : Pkt} (hh : HandOk x) (hp : p.ok) (hm : mayE p = 0) : (finS S k x p).2.1.ok ∧ ((finS S k x p).2.2.1 = true → (finS S k x p).2.2.2 = 0 ∧ (finS S k x p).2.1.more = false ∧ (finS S k x p).2.1.off = 0) ∧ ((finS S k x p).2.2.1 = false → (finS S k x p).2.1 = zP) := by
  by_cases h : (addE x p).2 ≠ 0
  · rw [fin_err h]; exact ⟨z_ok, (fun h => Bool.noConfusion h), fun _ => rfl⟩
  · cases hw : wholeE (addE x p).1.l with
    | some w =>
      rw [fin_yes h hw]
      have := whole_ok (add_hand hh hp hm) (add_ne h) hw
      exact ⟨this.1, fun _ => ⟨rfl, this.2.1, this.2.2⟩, (fun h => Bool.noConfusion h)⟩
    | none => rw [fin_no h hw]; exact ⟨z_ok, (fun h => Bool.noConfusion h), fun _ => rfl⟩
theorem take_res {most life now : Nat} {S : List PSet} {p : Pkt} (hS : SsOk S) (hp : p.ok) : (takeE most life S p now).2.1.ok ∧ ((takeE most life S p now).2.2.1 = true → (takeE most life S p now).2.2.2 = 0 ∧ (takeE most life S p now).2.1.more = false ∧ (takeE most life S p now).2.1.off = 0) ∧ ((takeE most life S p now).2.2.1 = false → (takeE most life S p now).2.1 = zP) := by
  unfold takeE
  split
  · exact ⟨z_ok, (fun h => Bool.noConfusion h), fun _ => rfl⟩
  · split
    · rename_i h; exact ⟨hp, fun _ => ⟨rfl, h⟩, (fun h => Bool.noConfusion h)⟩
    · split
      · exact ⟨z_ok, (fun h => Bool.noConfusion h), fun _ => rfl⟩
      · rename_i h1 h2
        have hm : mayE p = 0 := Decidable.not_not.1 h2
        cases hf : findS (expE S now) (keyE p) with
        | some x => exact fin_res (hand_of (S := S) ((hS.exp (now := now)).all x (find_mem hf).1)) hp hm
        | none =>
          dsimp only
          split
          · exact ⟨z_ok, (fun h => Bool.noConfusion h), fun _ => rfl⟩
          · exact fin_res (hand0 _) hp hm

end Go.Proofs.Ytmhkmcoobpfkcaa


namespace Go.Proofs.Ytmhkmcoobpfkcaa
open Go Pw
set_option maxRecDepth 20000
set_option maxHeartbeats 4000000
set_option synthInstance.maxHeartbeats 400000
set_option synthInstance.maxSize 4000
set_option maxHeartbeats 4000000

theorem foldE_mod (n : Nat) : foldE n % 65535 = n % 65535 := by
  induction n using Nat.strongRecOn with
  | _ n ih =>
    by_cases h : n < 65536
    · rw [foldE_small h]
    · rw [foldE_big h, ih _ (by omega)]; omega
theorem foldE_pos {n : Nat} (h0 : 0 < n) : 0 < foldE n := by
  induction n using Nat.strongRecOn with
  | _ n ih =>
    by_cases h : n < 65536
    · rw [foldE_small h]; exact h0
    · rw [foldE_big h]; exact ih _ (by omega) (by omega)
theorem fold_cpl (t : Nat) : foldE (t + (65535 - foldE t)) = 65535 := by
  have h1 := foldE_lt t
  have h2 := foldE_mod t
  have h3 := foldE_lt (t + (65535 - foldE t))
  have h4 := foldE_mod (t + (65535 - foldE t))
  have h5 : 0 < t + (65535 - foldE t) := by
    rcases Nat.eq_zero_or_pos t with h | h
    · subst h; rw [foldE_small (by decide)]; decide
    · omega
  have h6 := foldE_pos h5
  omega
theorem numE_succ (x n : Nat) : numE x (n + 1) = numE (x / 256) n ++ [UInt8.ofNat (x % 256)] := by
  unfold numE
  rw [List.range_succ, List.map_append]
  congr 1
  · refine List.map_congr_left fun j hj => ?_
    have hj' := List.mem_range.1 hj
    rw [Nat.div_div_eq_div_mul, show 256 = 2 ^ 8 from rfl, ← Nat.pow_add, show 8 + 8 * (n - 1 - j) = 8 * (n + 1 - 1 - j) by omega]
  · simp
theorem num2 (x : Nat) : numE x 2 = [UInt8.ofNat (x / 256 % 256), UInt8.ofNat (x % 256)] := by
  rw [numE_succ, numE_succ]; rfl
theorem num4 (x : Nat) : numE x 4 = [UInt8.ofNat (x / 256 / 256 / 256 % 256), UInt8.ofNat (x / 256 / 256 % 256), UInt8.ofNat (x / 256 % 256), UInt8.ofNat (x % 256)] := by
  rw [numE_succ, numE_succ, numE_succ, numE_succ]; rfl
theorem valE_app (l : List UInt8) (a : UInt8) (h : valE l < 72057594037927936) : valE (l ++ [a]) = valE l * 256 + a.toNat := by
  have e : valE (l ++ [a]) = valS (valE l) a := by unfold valE; rw [List.foldl_append]; rfl
  have ha := a.toNat_lt
  rw [e]; unfold valS
  rw [Nat.mod_eq_of_lt (by omega)]
  have h4 : valE l * 2 ^ 8 ||| a.toNat = valE l * 2 ^ 8 + a.toNat := by
    rw [Nat.mul_comm]; exact (Nat.two_pow_add_eq_or_of_lt (i := 8) (by omega) _).symm
  rw [h4]
theorem val_num : ∀ (n x : Nat), n ≤ 7 → valE (numE x n) = x % 256 ^ n
  | 0, x, _ => by rw [Nat.pow_zero, Nat.mod_one]; rfl
  | n + 1, x, h => by
    have ih := val_num n (x / 256) (by omega)
    have hlt : valE (numE (x / 256) n) < 72057594037927936 := Nat.lt_of_lt_of_le (valE_pow n _ (numE_len _ _) (by omega)) (Nat.le_trans (Nat.pow_le_pow_right (by decide) (show n ≤ 7 by omega)) (by decide))
    rw [numE_succ, valE_app _ _ hlt, ih]
    have hb : (UInt8.ofNat (x % 256)).toNat = x % 256 := by rw [UInt8.toNat_ofNat']; omega
    rw [hb, Nat.pow_succ, Nat.mul_comm (256 ^ n) 256, Nat.mod_mul, Nat.add_comm, Nat.mul_comm]
theorem sum_num {x : Nat} (h : x < 65536) : sumA (numE x 2) = x := by
  rw [num2]
  unfold sumA
  show sumI _ (0 + 1 + 1) = x
  rw [sumI_succ, sumI_succ]
  have e0 : gt [UInt8.ofNat (x / 256 % 256), UInt8.ofNat (x % 256)] 0 = UInt8.ofNat (x / 256 % 256) := rfl
  have e1 : gt [UInt8.ofNat (x / 256 % 256), UInt8.ofNat (x % 256)] (0 + 1) = UInt8.ofNat (x % 256) := rfl
  rw [e0, e1]
  have hb : ∀ y : Nat, (UInt8.ofNat (y % 256)).toNat = y % 256 := fun y => by rw [UInt8.toNat_ofNat']; omega
  rw [hb, hb]
  show 0 + (if 0 % 2 = 0 then 256 * (x / 256 % 256) else x / 256 % 256) + (if (0 + 1) % 2 = 0 then 256 * (x % 256) else x % 256) = x
  rw [if_pos (by decide), if_neg (by decide)]
  omega
/-- A sum that stands where it belongs. -/
theorem sum_self {l m : List UInt8} (h : l.length % 2 = 0) : sumE (l ++ numE (sumE (l ++ m)) 2 ++ m) = 0 := by
  have h1 := sumE_lt (l ++ m)
  rw [sumE_A, List.append_assoc, sumA_app h, sumA_app (l := numE _ 2) (by rw [numE_len]), sum_num h1, sumE_A, sumA_app h]
  have := fold_cpl (sumA l + sumA m)
  rw [show sumA l + (65535 - foldE (sumA l + sumA m) + sumA m) = sumA l + sumA m + (65535 - foldE (sumA l + sumA m)) by omega, this]
theorem and_pow (n k : Nat) : (n &&& 2 ^ k ≠ 0) ↔ n / 2 ^ k % 2 = 1 := by
  have e : n.testBit k = decide (n / 2 ^ k % 2 = 1) := Nat.testBit_eq_decide_div_mod_eq
  constructor
  · intro h
    rcases Decidable.em (n / 2 ^ k % 2 = 1) with h1 | h1
    · exact h1
    · exfalso; apply h
      apply Nat.eq_of_testBit_eq
      intro i
      rw [Nat.testBit_and, Nat.testBit_two_pow]
      by_cases hi : k = i
      · subst hi; rw [e]; simp [h1]
      · simp [hi]
  · intro h h2
    have h3 : (n &&& 2 ^ k).testBit k = true := by rw [Nat.testBit_and, Nat.testBit_two_pow, e]; simp [h]
    rw [h2] at h3; simp at h3
theorem m2_stay {p : Pkt} (h : p.off < 8192) : decide (m2E p &&& 16384 ≠ 0) = p.stay := by
  have := and_pow (m2E p) 14
  rw [show (2 : Nat) ^ 14 = 16384 from rfl] at this
  rw [Bool.eq_iff_iff, decide_eq_true_eq, this]
  unfold m2E m1E
  cases p.stay <;> cases p.more <;> simp <;> omega
theorem m2_more {p : Pkt} (h : p.off < 8192) : decide (m2E p &&& 8192 ≠ 0) = p.more := by
  have := and_pow (m2E p) 13
  rw [show (2 : Nat) ^ 13 = 8192 from rfl] at this
  rw [Bool.eq_iff_iff, decide_eq_true_eq, this]
  unfold m2E m1E
  cases p.stay <;> cases p.more <;> simp <;> omega
theorem m2_off {p : Pkt} (h : p.off < 8192) : m2E p % 8192 = p.off := by
  unfold m2E m1E
  cases p.stay <;> cases p.more <;> simp <;> omega
theorem m2_15 {p : Pkt} (h : p.off < 8192) : m2E p < 32768 := by
  unfold m2E m1E
  cases p.stay <;> cases p.more <;> simp <;> omega
theorem enc_ok {p : Pkt} (h : (encE p).2 = 0) : p.off < 8192 ∧ 20 + p.data.length ≤ 1500 := by
  unfold encE at h
  split at h
  · cases h
  · split at h
    · cases h
    · omega
theorem toN (y : Nat) : (UInt8.ofNat (y % 256)).toNat = y % 256 := by rw [UInt8.toNat_ofNat']; omega
theorem toN' {y : Nat} (h : y < 256) : (UInt8.ofNat y).toNat = y := by rw [UInt8.toNat_ofNat']; omega
theorem dec_enc {p : Pkt} (hp : p.ok) (h : (encE p).2 = 0) (more : List UInt8) : decE ((encE p).1 ++ more) = (p, 0) := by
  obtain ⟨h1, h2⟩ := enc_ok h
  have he : (encE p).1 = frontE p ++ numE (sumE (frontE p ++ backE p)) 2 ++ backE p ++ p.data := by unfold encE; rw [if_neg (by omega), if_neg (by omega)]
  rw [he]
  have hbk : backE p = numE p.src 4 ++ numE p.dst 4 := backE_eq hp.src hp.dst
  have hs0 : sumE (frontE p ++ numE (sumE (frontE p ++ backE p)) 2 ++ backE p) = 0 := sum_self (by rw [frontE_len])
  generalize hck : sumE (frontE p ++ backE p) = ck at *
  have hm := m2_15 h1
  -- the bytes
  obtain ⟨s, hs⟩ : ∃ s, s = frontE p ++ numE ck 2 ++ backE p ++ p.data ++ more := ⟨_, rfl⟩
  rw [← hs]
  have hh : frontE p ++ numE ck 2 ++ backE p = [69, 0] ++ numE (20 + p.data.length) 2 ++ numE p.id 2 ++ numE (m2E p) 2 ++ [UInt8.ofNat p.ttl, UInt8.ofNat p.proto] ++ numE ck 2 ++ (numE p.src 4 ++ numE p.dst 4) := by rw [hbk]; rfl
  have hs' : s = [69, 0] ++ numE (20 + p.data.length) 2 ++ numE p.id 2 ++ numE (m2E p) 2 ++ [UInt8.ofNat p.ttl, UInt8.ofNat p.proto] ++ numE ck 2 ++ (numE p.src 4 ++ numE p.dst 4) ++ (p.data ++ more) := by rw [hs, hh]; simp only [List.append_assoc]
  have hlen : s.length = 20 + (p.data ++ more).length := by rw [hs']; simp only [List.length_append, numE_len, List.length_cons, List.length_nil]
  have htk : s.take 20 = frontE p ++ numE ck 2 ++ backE p := by
    rw [hs, List.append_assoc (frontE p ++ numE ck 2 ++ backE p), List.take_left' (by simp only [List.length_append, numE_len, frontE_len, backE_len])]
  have hdr : (s.take (20 + p.data.length)).drop 20 = p.data := by
    have hl : (frontE p ++ numE ck 2 ++ backE p).length = 20 := by simp only [List.length_append, numE_len, frontE_len, backE_len]
    rw [hs, List.append_assoc (frontE p ++ numE ck 2 ++ backE p) p.data more, ← List.append_assoc _ p.data more, List.take_left' (by rw [List.length_append, hl]), List.drop_left' hl]
  have hg0 : gt s 0 = 69 := by rw [hs']; rfl
  have hhd : hdE s = 20 := by unfold hdE; rw [hg0]; rfl
  have w2 : v2 s 2 = 20 + p.data.length := by
    have : (s.take (2 + 2)).drop 2 = numE (20 + p.data.length) 2 := by rw [hs', num2, num2, num2, num2, num4, num4]; rfl
    unfold v2; rw [this, val_num 2 _ (by decide)]; omega
  have w4 : v2 s 4 = p.id := by
    have : (s.take (4 + 2)).drop 4 = numE p.id 2 := by rw [hs', num2, num2, num2, num2, num4, num4]; rfl
    have hi := hp.id
    unfold v2; rw [this, val_num 2 _ (by decide)]; omega
  have w6 : v2 s 6 = m2E p := by
    have : (s.take (6 + 2)).drop 6 = numE (m2E p) 2 := by rw [hs', num2, num2, num2, num2, num4, num4]; rfl
    unfold v2; rw [this, val_num 2 _ (by decide)]; omega
  have w12 : v4 s 12 = p.src := by
    have : (s.take (12 + 4)).drop 12 = numE p.src 4 := by rw [hs', num2, num2, num2, num2, num4, num4]; rfl
    have hi := hp.src
    unfold v4; rw [this, val_num 4 _ (by decide)]; omega
  have w16 : v4 s 16 = p.dst := by
    have : (s.take (16 + 4)).drop 16 = numE p.dst 4 := by rw [hs', num2, num2, num2, num2, num4, num4]; rfl
    have hi := hp.dst
    unfold v4; rw [this, val_num 4 _ (by decide)]; omega
  have w8 : (gt s 8).toNat = p.ttl := by
    have : gt s 8 = UInt8.ofNat p.ttl := by rw [hs', num2, num2, num2, num2, num4, num4]; rfl
    rw [this, toN' hp.ttl]
  have w9 : (gt s 9).toNat = p.proto := by
    have : gt s 9 = UInt8.ofNat p.proto := by rw [hs', num2, num2, num2, num2, num4, num4]; rfl
    rw [this, toN' hp.proto]
  have hnb : ¬ badE s := by
    unfold badE
    rw [hg0, hhd, w2, w6]
    rintro (h | h | h | h)
    · exact h rfl
    · omega
    · omega
    · omega
  rw [dec_o (by omega) hnb (by rw [hlen, w2, List.length_append]; omega) (by rw [hhd, htk, hs0]; simp)]
  have : gotE s = p := pkt_ext ⟨w12, w16, w9, w8, w4, by show decide (v2 s 6 &&& 16384 ≠ 0) = p.stay; rw [w6]; exact m2_stay h1, by show decide (v2 s 6 &&& 8192 ≠ 0) = p.more; rw [w6]; exact m2_more h1, by show v2 s 6 % 8192 = p.off; rw [w6]; exact m2_off h1, by show (s.take (v2 s 2)).drop (hdE s) = p.data; rw [w2, hhd]; exact hdr⟩
  rw [this]

end Go.Proofs.Ytmhkmcoobpfkcaa


namespace Go.Proofs.Ytmhkmcoobpfkcaa
open Go Pw
set_option maxRecDepth 20000
set_option maxHeartbeats 4000000
set_option synthInstance.maxHeartbeats 400000
set_option synthInstance.maxSize 4000
set_option maxHeartbeats 4000000

theorem enc_len {p : Pkt} : (encE p).1.length ≤ 1500 := by
  unfold encE
  split
  · exact Nat.zero_le _
  · split
    · exact Nat.zero_le _
    · dsimp only; simp only [List.length_append, numE_len, frontE_len, backE_len]; omega
abbrev wPA : Pkt := ⟨1, 2, 6, 9, 7, false, true, 0, [97, 98, 99, 100, 101, 102, 103, 104]⟩
abbrev wPB : Pkt := ⟨1, 2, 6, 9, 7, false, false, 1, [105, 106]⟩
abbrev wPC : Pkt := ⟨1, 2, 6, 9, 7, false, false, 0, [97, 98, 99, 100, 101, 102, 103, 104, 105, 106]⟩
theorem wtk1 : takeE 2 10 [] ⟨1, 2, 6, 9, 7, false, false, 1, [105, 106]⟩ 1 = ([⟨[⟨1, 2, 6, 9, 7, false, false, 1, [105, 106]⟩], 11⟩], zP, false, 0) := by rfl
theorem wtk2 : takeE 2 10 [⟨[⟨1, 2, 6, 9, 7, false, false, 1, [105, 106]⟩], 11⟩] ⟨1, 2, 6, 9, 7, false, true, 0, [97, 98, 99, 100, 101, 102, 103, 104]⟩ 2 = ([], ⟨1, 2, 6, 9, 7, false, false, 0, [97, 98, 99, 100, 101, 102, 103, 104, 105, 106]⟩, true, 0) := by rfl
theorem wokA : Pkt.ok ⟨1, 2, 6, 9, 7, false, true, 0, [97, 98, 99, 100, 101, 102, 103, 104]⟩ := ⟨by decide, by decide, by decide, by decide, by decide, by decide, by decide⟩
theorem wokB : Pkt.ok ⟨1, 2, 6, 9, 7, false, false, 1, [105, 106]⟩ := ⟨by decide, by decide, by decide, by decide, by decide, by decide, by decide⟩
theorem wss : SsOk [⟨[⟨1, 2, 6, 9, 7, false, false, 1, [105, 106]⟩], 11⟩] := by
  have h := ss_take (most := 2) (life := 10) (now := 1) (S := []) (p := ⟨1, 2, 6, 9, 7, false, false, 1, [105, 106]⟩) ss0 wokB (by decide)
  rw [wtk1] at h; exact h
theorem wenc : (encE ⟨1, 2, 6, 9, 7, false, true, 0, [97, 98, 99, 100, 101, 102, 103, 104]⟩).2 = 0 := by rfl
theorem wdec : decE (encE ⟨1, 2, 6, 9, 7, false, true, 0, [97, 98, 99, 100, 101, 102, 103, 104]⟩).1 = (⟨1, 2, 6, 9, 7, false, true, 0, [97, 98, 99, 100, 101, 102, 103, 104]⟩, 0) := by
  have h := dec_enc wokA wenc []
  rw [List.append_nil] at h; exact h
theorem wsum : sumE [0, 1, 242, 3, 244, 245, 246, 247] = 8717 := by
  have : sumI [0, 1, 242, 3, 244, 245, 246, 247] 8 = 187888 := by rfl
  show 65535 - foldE (sumI [0, 1, 242, 3, 244, 245, 246, 247] 8) = 8717
  rw [this, foldE_big (by decide), foldE_small (by decide)]
theorem works11  :
    Sat Try.prog 11 [] [] (fun u L' => u = .bool true ∧ L' = []) := by
  all_goals
    refine Sat.enter Try.func11 rfl Try.ntmps11 rfl (fun c R => ?_)
    try simp only [List.cons_append, List.nil_append]
    repeat' (first
      | (rw [wtk1]; dsimp only)
      | (rw [wtk2]; dsimp only)
      | exact ⟨ss0, wokB, by decide, by decide⟩
      | exact ⟨wss, wokA, by decide, by decide⟩
      | exact wokA
      | exact Nat.lt_of_le_of_lt enc_len (by decide)
      | (rw [wdec]; dsimp only)
      | (rw [wenc])
      | (rw [wsum])
      | (exact Fini.of ⟨rfl, rfl⟩ (by repeat first | exact Imp.refl _ | (apply Imp.pull; focus ((repeat first | exact Del.head _ _ | apply Del.tail); done)) | apply Imp.drop))
      | refine And.intro (fun hc => ?_) (fun hc => ?_)
      | refine And.intro ?_ ?_
      | intro b
      | refine stp ?_
      | refine TQ.finC ?_
      | refine TQ.finC2 ?_
      | refine TQ.finC3 ?_
      | refine ⟨fun hc => ?_, fun hc => ?_⟩
      | refine Ei.f ?_
      | refine ⟨?_, ?_⟩
      | intro b
      | exact absurd rfl hc
      | exact absurd hc (by decide)
      | exact absurd rfl hc
      | exact absurd hc (by decide)
      | omega
      | (dsimp only; omega)
      | fail)
instance {L : List Assn} : FnR Try.prog 11 [] L (fun q => q (.bool true) L) := ⟨fun q h => ⟨[], L, _, works11, .nil _, fun v L' hv => by rw [hv.1, hv.2]; exact h⟩⟩

end Go.Proofs.Ytmhkmcoobpfkcaa


namespace Go.Proofs.Ytmhkmcoobpfkcaa
open Go Pw
set_option maxRecDepth 20000
set_option maxHeartbeats 4000000
set_option synthInstance.maxHeartbeats 400000
set_option synthInstance.maxSize 4000
set_option maxHeartbeats 4000000

/-- A packet as it comes in: its data may be long. -/
structure Pkt.okw (p : Pkt) : Prop where
  src : p.src < 4294967296
  dst : p.dst < 4294967296
  proto : p.proto < 256
  ttl : p.ttl < 256
  id : p.id < 65536
  off : p.off < 65536
  data : p.data.length ≤ 140737488351232
theorem Pkt.okw.ok {p : Pkt} (h : p.okw) (hl : p.data.length < 4294967296) : p.ok := ⟨h.src, h.dst, h.proto, h.ttl, h.id, h.off, hl⟩
theorem none_spec (p : Pkt) (now : Nat) (hp : p.okw) :
    Sat Try.prog 6 [.agg (pktV p).toArray, .int .u64 now] [] (fun u L' => u = .bool true ∧ L' = []) := by
  have hd := hp.data
  all_goals
    refine Sat.enter Try.func6 rfl Try.ntmps6 rfl (fun c R => ?_)
    try simp only [List.cons_append, List.nil_append]
    repeat' (first
      | (exact Fini.of ⟨rfl, rfl⟩ (by repeat first | exact Imp.refl _ | (apply Imp.pull; focus ((repeat first | exact Del.head _ _ | apply Del.tail); done)) | apply Imp.drop))
      | refine And.intro (fun hc => ?_) (fun hc => ?_)
      | refine And.intro ?_ ?_
      | intro b
      | refine stp ?_
      | refine TQ.finC ?_
      | refine TQ.finC2 ?_
      | refine TQ.finC3 ?_
      | refine ⟨fun hc => ?_, fun hc => ?_⟩
      | refine Ei.f ?_
      | refine ⟨?_, ?_⟩
      | intro b
      | exact absurd rfl hc
      | exact absurd hc (by decide)
      | exact absurd rfl hc
      | exact absurd hc (by decide)
      | omega
      | (dsimp only; omega)
      | fail)

end Go.Proofs.Ytmhkmcoobpfkcaa


namespace Go.Proofs.Ytmhkmcoobpfkcaa
open Go Pw
set_option maxRecDepth 20000
set_option maxHeartbeats 4000000
set_option synthInstance.maxHeartbeats 400000
set_option synthInstance.maxSize 4000
set_option maxHeartbeats 4000000

structure Stp where
  (p : Pkt) (now : Nat)
instance : Inhabited Stp := ⟨⟨default, 0⟩⟩
abbrev stpV (t : Stp) : List Value := [.int .u32 t.p.src, .int .u32 t.p.dst, .int .u8 t.p.proto, .int .u8 t.p.ttl, .int .u16 t.p.id, .bool t.p.stay, .bool t.p.more, .int .u16 t.p.off, str t.p.data, .int .u64 t.now]
structure Stp.ok (t : Stp) : Prop where
  p : t.p.okw
  now : t.now < 18446744073709551616
theorem stp0 : (default : Stp).ok := ⟨⟨by decide, by decide, by decide, by decide, by decide, by decide, by decide⟩, by decide⟩
instance : FLen stpV 10 := ⟨fun _ => rfl⟩
instance : FLen stpV (9 + 1) := ⟨fun _ => rfl⟩
def sumD (l : List Stp) : Nat → Nat
  | 0 => 0
  | i + 1 => sumD l i + (gt l i).p.data.length
theorem sumD_le {l : List Stp} {i j : Nat} (h : j < i) : (gt l j).p.data.length ≤ sumD l i := by
  induction i with
  | zero => omega
  | succ i ih =>
    show _ ≤ sumD l i + _
    rcases Nat.lt_or_eq_of_le (Nat.le_of_lt_succ h) with h | h
    · have := ih h; omega
    · rw [h]; omega
theorem sumD_b {l : List Stp} (h : ∀ j, (gt l j).ok) : ∀ i, sumD l i ≤ 140737488351232 * i
  | 0 => Nat.le_refl _
  | i + 1 => by
    have h1 := sumD_b h i
    have h2 := (h i).p.data
    show sumD l i + _ ≤ _
    omega
theorem sD {x y : Nat} (e : x = y) : Value.int .i64 (x : Int) = Value.int .i64 (y : Int) := by rw [e]
class OldDel (L : List Assn) (h : outParam (Array Obj)) (R : outParam (List Assn)) : Prop where h : Del (old h) L R
instance (priority := 1100) {L : List Assn} {h : Array Obj} : OldDel (old h :: L) h L := ⟨.head _ _⟩
instance {A : Assn} {L R : List Assn} {h : Array Obj} [k : OldDel L h R] : OldDel (A :: L) h (A :: R) := ⟨.tail k.h⟩
theorem heavy_spec (l : List Stp) (h : Array Obj) (a : Option Addr) (k : Nat) [hI0 : InpD h a (9 + 1) l.length k (l.flatMap stpV)] (hok : ∀ j, (gt l j).ok) (hl : l.length < 4611686018427387904) :
    Sat Try.prog 10 [.slice a l.length k] [old h] (fun u L' => ∃ b, u = .bool b ∧ L' = [old h] ∧ (b = false → l.length ≤ 100 ∧ ∀ j, j < l.length → (gt l j).p.data.length ≤ 32768)) := by
  all_goals
    refine Sat.enter Try.func10 rfl Try.ntmps10 rfl (fun c R => ?_)
    try simp only [List.cons_append, List.nil_append]
    repeat' (first
      | (refine T.atB 0 ?_; refine T.lpa 0 [(0, _)] (0 : Nat) (fun i => [(3, .int .i64 (sumD l i : Nat)), (4, .int .i64 (i : Nat))]) (fun _ => []) (fun i => i ≤ l.length ∧ i ≤ 300) (fun i => 300 - i) ⟨Nat.zero_le _, Nat.zero_le _⟩ ?_; rintro i g ⟨hi, hi3⟩; have hsb := sumD_b hok i; have hdb := (hok i).p.data; simp only [List.cons_append, List.nil_append, appR])
      | (refine TQ.atL ?_; refine TQ.rda (i + 1 : Nat) ?_ ?_ rfl ⟨sD rfl, rfl, rfl, trivial⟩)
      | (exact Fini.of ⟨_, rfl, rfl, fun h => by cases h⟩ (by repeat first | exact Imp.refl _ | (apply Imp.pull; focus ((repeat first | exact Del.head _ _ | apply Del.tail); done)) | apply Imp.drop))
      | (exact Fini.of ⟨_, rfl, rfl, fun h => (by have h2 := of_decide_eq_false h; exact ⟨by omega, fun j hj => Nat.le_trans (sumD_le (i := i) (by omega)) (by omega)⟩)⟩ (by repeat first | exact Imp.refl _ | (apply Imp.pull; focus ((repeat first | exact Del.head _ _ | apply Del.tail); done)) | apply Imp.drop))
      | refine And.intro (fun hc => ?_) (fun hc => ?_)
      | refine And.intro ?_ ?_
      | intro b
      | refine stp ?_
      | refine TQ.finC ?_
      | refine TQ.finC2 ?_
      | refine TQ.finC3 ?_
      | refine ⟨fun hc => ?_, fun hc => ?_⟩
      | refine Ei.f ?_
      | refine ⟨?_, ?_⟩
      | intro b
      | exact absurd rfl hc
      | exact absurd hc (by decide)
      | exact absurd rfl hc
      | exact absurd hc (by decide)
      | omega
      | (dsimp only; omega)
      | fail)
instance {L R : List Assn} {l : List Stp} {h : Array Obj} {a : Option Addr} {n k : Nat} [ho : OldDel L h R] [hI0 : InpD h a (9 + 1) n k (l.flatMap stpV)] : FnR Try.prog 10 [.slice a n k] L (fun kk => Vc ((∀ j, (gt l j).ok) ∧ n = l.length ∧ n < 4611686018427387904) (∀ b, (b = false → l.length ≤ 100 ∧ ∀ j, j < l.length → (gt l j).p.data.length ≤ 32768) → kk (.bool b) (old h :: R))) :=
  ⟨fun kk hk => by
    obtain ⟨⟨h1, h2, h3⟩, h4⟩ := hk
    subst h2
    exact ⟨_, R, _, heavy_spec l h a k h1 h3, .cons ho.h (.nil _), fun v L' hv => by obtain ⟨b, e1, e2, e3⟩ := hv; rw [e1, e2]; exact h4 b e3⟩⟩

end Go.Proofs.Ytmhkmcoobpfkcaa

